/- Walks of the reference of layer 33: Named, tags, ValidCohort, Valid, ValidTest, ValidRule. -/
import Derived.Test.YtplipnchkkhdaaaGreatDoorZ07
namespace Go.Proofs.YtplipnchkkhdaaaGreatDoor
open Go.RowKit
set_option linter.unusedVariables false

set_option maxHeartbeats 1000000 in
set_option maxRecDepth 100000 in
theorem rsplit_every (s : ByteArray) (w : World) :
    Calls Tryz.prog 110 #[.string s] w (SplitPost w (splitL s.data.toList) (splitAt s.data.toList) (splitE s.data.toList)) := by
  by_cases hs : s.size ≤ 16384
  · exact rsplit_any s w hs
  · have HS : Hid (splitL s.data.toList = [] ∧ splitAt s.data.toList = 0 ∧ splitE s.data.toList = 2) := by
      unfold Hid splitL splitAt splitE splitR
      rw [if_pos (by rw [← Lib.size_eq]; omega)]
      exact ⟨rfl, rfl, rfl⟩
    have hd : (16384 : Int) < (s.size : Int) := by omega
    go_enter Tryz.func110, Tryz.ntmps110
    go_wp2_with fail
    go_returns
    obtain ⟨d1, d2, d3⟩ := HS.out
    exact ⟨none, 0, by rw [d1, d2, d3]; rfl, by rw [d1]; exact Nat.le_refl _, by rw [d1]; exact RowAt.nil _ _, Below.refl _ _⟩
theorem tagOk_size (s : ByteArray) : tagOk s.data.toList = (decide (splitE s.data.toList = 0) && decide (1 ≤ s.size) && decide (s.size ≤ 40)) := by
  unfold tagOk
  rw [Lib.size_eq]
  congr 2
  cases s.data.toList with
  | nil => rfl
  | cons x r => simp
set_option maxHeartbeats 1000000 in
set_option maxRecDepth 100000 in
theorem rnamed_any (s : ByteArray) (w : World) :
    Calls Tryz.prog 87 #[.string s] w fun e w' => e = .returned (.bool (tagOk s.data.toList)) ∧ Below w.heap.size w w' := by
  have p1 := rsplit_every s w
  have HK := Lib.hid (tagOk_size s)
  generalize tagOk s.data.toList = q at *
  generalize splitE s.data.toList = n at *
  generalize splitL s.data.toList = l at *
  generalize splitAt s.data.toList = i at *
  by_cases h1 : 1 ≤ s.size
  · have d1 : decide ((1 : Int) ≤ (s.size : Int)) = true := decide_eq_true (by omega)
    by_cases h2 : s.size ≤ 40
    · have d2 : decide ((s.size : Int) ≤ 40) = true := decide_eq_true (by omega)
      have d0 : (1 : Int) ≤ (s.size : Int) := by omega
      have HQ : Hid (q = decide (n = 0)) := by rw [Hid, HK.out, decide_eq_true h1, decide_eq_true h2]; simp
      clear h1 h2
      go_enter Tryz.func87, Tryz.ntmps87
      go_wp2_with fail
      refine p1.mono ?_
      rintro e w1 ⟨A, cap, rfl, hcap, hrow, hb⟩
      go_wp2_with fail
      go_returns
      exact ⟨ret_bool (by rw [HQ.out]; cases n <;> simp <;> omega), hb⟩
    · have d2 : decide ((s.size : Int) ≤ 40) = false := decide_eq_false (by omega)
      have d0 : (1 : Int) ≤ (s.size : Int) := by omega
      have HQ : Hid (q = false) := by rw [Hid, HK.out, decide_eq_false h2]; simp
      clear h1 h2
      go_enter Tryz.func87, Tryz.ntmps87
      go_wp2_with fail
      refine p1.mono ?_
      rintro e w1 ⟨A, cap, rfl, hcap, hrow, hb⟩
      go_wp2_with fail
      go_returns
      exact ⟨ret_bool (by rw [HQ.out]), hb⟩
  · have d1 : decide ((1 : Int) ≤ (s.size : Int)) = false := decide_eq_false (by omega)
    have HQ : Hid (q = false) := by rw [Hid, HK.out, decide_eq_false h1]; simp
    have d0 : ¬ (1 : Int) ≤ (s.size : Int) := by omega
    clear h1
    go_enter Tryz.func87, Tryz.ntmps87
    go_wp2_with fail
    refine p1.mono ?_
    rintro e w1 ⟨A, cap, rfl, hcap, hrow, hb⟩
    go_wp2_with fail
    go_returns
    exact ⟨ret_bool (by rw [HQ.out]), hb⟩
set_option maxHeartbeats 1000000 in
set_option maxRecDepth 100000 in
theorem rtags0_any (A : Option Addr) (c : Nat) (l : List Bs) (w : World) (hrow : RowAt w A (l.map S)) (hl : l.length ≤ 1000000) :
    Calls Tryz.prog 50 #[.slice A l.length c, .int .i64 0, .int .i64 20] w fun e w' => e = .returned (.bool (tagsOk 0 20 l)) ∧ Below w.heap.size w w' := by
  by_cases h1 : 0 ≤ l.length
  · by_cases h2 : l.length ≤ 20
    · have d1 : decide ((l.length : Int) < 0) = false := decide_eq_false (by omega)
      have d2 : decide ((20 : Int) < (l.length : Int)) = false := decide_eq_false (by omega)
      have HK : Hid (tagsOk 0 20 l = l.all tagOk) := by unfold Hid tagsOk; rw [decide_eq_true h1, decide_eq_true h2]; rfl
      have d3 : ¬ ((l.length : Int) < 0) := by omega
      clear h1 h2
      go_enter Tryz.func50, Tryz.ntmps50
      go_wp2_with fail
      go_loopw [7] (fun i wr => ∃ (k : Nat), i = .int .i64 k ∧ k ≤ l.length ∧ Below w.heap.size w wr ∧ Hid (∀ x ∈ l.take k, tagOk x = true)) (fun i _ => l.length - (intOf i).toNat)
      case atStart => exact ⟨0, rfl, by omega, Below.refl _ _, by simp [Hid]⟩
      case round =>
        obtain ⟨k, rfl, hk, hB, HN⟩ := hrel
        by_cases hlt : k < l.length
        · obtain ⟨b, o, rfl, hbl, hcell⟩ := hrow (by intro e; rw [List.map_eq_nil_iff] at e; rw [e] at hlt; simp at hlt)
          have k1 : wr.cell? ⟨b, o + k, none⟩ = some (.string ⟨l[k].toArray⟩) := (hB.cell (p := ⟨b, o + k, none⟩) hbl).trans (hcell k _ (getS hlt))
          have p1 := rnamed_any ⟨l[k].toArray⟩ wr
          have k0 : (0 : Int) ≤ (k : Int) := by omega
          have kl : (k : Int) < (l.length : Int) := by omega
          have HF : Hid (tagOk l[k] = false → tagsOk 0 20 l = false) := fun h => by rw [HK.out]; exact all_no hlt h
          have HT : Hid (tagOk l[k] = true → ∀ x ∈ l.take (k + 1), tagOk x = true) := all_take hlt HN.out
          have e1 : (⟨l[k].toArray⟩ : ByteArray).data.toList = l[k] := rfl
          rw [e1] at p1
          clear e1 hcell
          generalize l[k] = y at *
          cases hq : tagOk y with
          | false =>
            have HX := Lib.hid (HF.out hq)
            rw [hq] at p1
            clear hq
            go_wp2_with fail
            refine p1.mono ?_
            rintro e W5 ⟨rfl, b5⟩
            go_wp2_with fail
            go_returns
            exact ⟨by rw [HX.out]; (try rfl), bstep hB b5⟩
          | true =>
            have HX := Lib.hid (HT.out hq)
            rw [hq] at p1
            clear hq
            go_wp2_with fail
            refine p1.mono ?_
            rintro e W5 ⟨rfl, b5⟩
            go_wp2_with fail
            go_roundw
            case rel => exact ⟨k + 1, by go_num, by omega, bstep hB b5, HX.out⟩
            case measure => simp [intOf]; omega
        · obtain rfl : k = l.length := by omega
          have HX : Hid (tagsOk 0 20 l = true) := by rw [Hid, HK.out, List.all_eq_true]; have := HN.out; rwa [List.take_length] at this
          go_wp2_with fail
          go_returns
          exact ⟨by rw [HX.out]; (try rfl), hB⟩
    · have d1 : decide ((l.length : Int) < 0) = false := decide_eq_false (by omega)
      have d2 : decide ((20 : Int) < (l.length : Int)) = true := decide_eq_true (by omega)
      have HK : Hid (tagsOk 0 20 l = false) := by unfold Hid tagsOk; rw [decide_eq_false h2]; simp
      have d3 : ¬ ((l.length : Int) < 0) := by omega
      clear h1 h2
      go_enter Tryz.func50, Tryz.ntmps50
      go_wp2_with fail
      go_returns
      exact ⟨by rw [HK.out]; (try rfl), Below.refl _ _⟩
  · have d1 : decide ((l.length : Int) < 0) = true := decide_eq_true (by omega)
    have HK : Hid (tagsOk 0 20 l = false) := by unfold Hid tagsOk; rw [decide_eq_false h1]; simp
    clear h1
    go_enter Tryz.func50, Tryz.ntmps50
    go_wp2_with fail
    go_returns
    exact ⟨by rw [HK.out]; (try rfl), Below.refl _ _⟩
set_option maxHeartbeats 1000000 in
set_option maxRecDepth 100000 in
theorem rtags1_any (A : Option Addr) (c : Nat) (l : List Bs) (w : World) (hrow : RowAt w A (l.map S)) (hl : l.length ≤ 1000000) :
    Calls Tryz.prog 50 #[.slice A l.length c, .int .i64 1, .int .i64 20] w fun e w' => e = .returned (.bool (tagsOk 1 20 l)) ∧ Below w.heap.size w w' := by
  by_cases h1 : 1 ≤ l.length
  · by_cases h2 : l.length ≤ 20
    · have d1 : decide ((l.length : Int) < 1) = false := decide_eq_false (by omega)
      have d2 : decide ((20 : Int) < (l.length : Int)) = false := decide_eq_false (by omega)
      have HK : Hid (tagsOk 1 20 l = l.all tagOk) := by unfold Hid tagsOk; rw [decide_eq_true h1, decide_eq_true h2]; rfl
      have d3 : ¬ ((l.length : Int) < 1) := by omega
      clear h1 h2
      go_enter Tryz.func50, Tryz.ntmps50
      go_wp2_with fail
      go_loopw [7] (fun i wr => ∃ (k : Nat), i = .int .i64 k ∧ k ≤ l.length ∧ Below w.heap.size w wr ∧ Hid (∀ x ∈ l.take k, tagOk x = true)) (fun i _ => l.length - (intOf i).toNat)
      case atStart => exact ⟨0, rfl, by omega, Below.refl _ _, by simp [Hid]⟩
      case round =>
        obtain ⟨k, rfl, hk, hB, HN⟩ := hrel
        by_cases hlt : k < l.length
        · obtain ⟨b, o, rfl, hbl, hcell⟩ := hrow (by intro e; rw [List.map_eq_nil_iff] at e; rw [e] at hlt; simp at hlt)
          have k1 : wr.cell? ⟨b, o + k, none⟩ = some (.string ⟨l[k].toArray⟩) := (hB.cell (p := ⟨b, o + k, none⟩) hbl).trans (hcell k _ (getS hlt))
          have p1 := rnamed_any ⟨l[k].toArray⟩ wr
          have k0 : (0 : Int) ≤ (k : Int) := by omega
          have kl : (k : Int) < (l.length : Int) := by omega
          have HF : Hid (tagOk l[k] = false → tagsOk 1 20 l = false) := fun h => by rw [HK.out]; exact all_no hlt h
          have HT : Hid (tagOk l[k] = true → ∀ x ∈ l.take (k + 1), tagOk x = true) := all_take hlt HN.out
          have e1 : (⟨l[k].toArray⟩ : ByteArray).data.toList = l[k] := rfl
          rw [e1] at p1
          clear e1 hcell
          generalize l[k] = y at *
          cases hq : tagOk y with
          | false =>
            have HX := Lib.hid (HF.out hq)
            rw [hq] at p1
            clear hq
            go_wp2_with fail
            refine p1.mono ?_
            rintro e W5 ⟨rfl, b5⟩
            go_wp2_with fail
            go_returns
            exact ⟨by rw [HX.out]; (try rfl), bstep hB b5⟩
          | true =>
            have HX := Lib.hid (HT.out hq)
            rw [hq] at p1
            clear hq
            go_wp2_with fail
            refine p1.mono ?_
            rintro e W5 ⟨rfl, b5⟩
            go_wp2_with fail
            go_roundw
            case rel => exact ⟨k + 1, by go_num, by omega, bstep hB b5, HX.out⟩
            case measure => simp [intOf]; omega
        · obtain rfl : k = l.length := by omega
          have HX : Hid (tagsOk 1 20 l = true) := by rw [Hid, HK.out, List.all_eq_true]; have := HN.out; rwa [List.take_length] at this
          go_wp2_with fail
          go_returns
          exact ⟨by rw [HX.out]; (try rfl), hB⟩
    · have d1 : decide ((l.length : Int) < 1) = false := decide_eq_false (by omega)
      have d2 : decide ((20 : Int) < (l.length : Int)) = true := decide_eq_true (by omega)
      have HK : Hid (tagsOk 1 20 l = false) := by unfold Hid tagsOk; rw [decide_eq_false h2]; simp
      have d3 : ¬ ((l.length : Int) < 1) := by omega
      clear h1 h2
      go_enter Tryz.func50, Tryz.ntmps50
      go_wp2_with fail
      go_returns
      exact ⟨by rw [HK.out]; (try rfl), Below.refl _ _⟩
  · have d1 : decide ((l.length : Int) < 1) = true := decide_eq_true (by omega)
    have HK : Hid (tagsOk 1 20 l = false) := by unfold Hid tagsOk; rw [decide_eq_false h1]; simp
    clear h1
    go_enter Tryz.func50, Tryz.ntmps50
    go_wp2_with fail
    go_returns
    exact ⟨by rw [HK.out]; (try rfl), Below.refl _ _⟩
set_option maxHeartbeats 4000000 in
set_option maxRecDepth 100000 in
theorem rvcohort_any (F : ByteArray) (rs : List (List Bs)) (x : Value) (w : World) (hx : ReadsV w x rs) (h1 : rs.length ≤ 1000000) (h3 : ∀ r ∈ rs, r.length ≤ 1000000) :
    Calls Tryz.prog 49 #[.agg #[.string F, x]] w fun e w' => e = .returned (.bool (cohOk ⟨F.data.toList, rs⟩)) ∧ Below w.heap.size w w' := by
  obtain ⟨A, c, rfl⟩ := hx.form
  have HX := Lib.hid hx
  clear hx
  have bA : Below w.heap.size w (w.alloc (.cells #[.string F, .slice A rs.length c] 29)) := (Below.refl _ _).alloc (Nat.le_refl _) _
  have p1 := rnamed_any F (w.alloc (.cells #[.string F, .slice A rs.length c] 29))
  have HE : Hid (∀ W3, Below (w.alloc (.cells #[.string F, .slice A rs.length c] 29)).heap.size (w.alloc (.cells #[.string F, .slice A rs.length c] 29)) W3 → W3.cell? ⟨w.heap.size, 1, none⟩ = some (.slice A rs.length c)) := fun W3 b3 =>
    (b3.cell (p := ⟨w.heap.size, 1, none⟩) (by simp)).trans (at3 w #[.string F, .slice A rs.length c] 29 1 _ rfl)
  have HK : Hid (cohOk ⟨F.data.toList, rs⟩ = (tagOk F.data.toList && decide (rs.length ≤ 30) && rs.all (tagsOk 1 20))) := rfl
  generalize cohOk ⟨F.data.toList, rs⟩ = q at *
  cases hq : tagOk F.data.toList with
  | false =>
    rw [hq] at p1
    have HQ : Hid (q = false) := by rw [Hid, HK.out, hq]; rfl
    clear hq
    go_enter Tryz.func49, Tryz.ntmps49
    go_wp2_with fail
    refine p1.mono ?_
    rintro e W3 ⟨rfl, b3⟩
    go_wp2_with fail
    go_returns
    exact ⟨by rw [HQ.out]; (try rfl), bstep bA b3⟩
  | true =>
    rw [hq] at p1
    by_cases h30 : 30 < rs.length
    · have HQ : Hid (q = false) := by rw [Hid, HK.out, decide_eq_false (by omega : ¬ rs.length ≤ 30)]; simp
      have d30 : decide ((30 : Int) < (rs.length : Int)) = true := decide_eq_true (by omega)
      clear hq
      go_enter Tryz.func49, Tryz.ntmps49
      go_wp2_with fail
      refine p1.mono ?_
      rintro e W3 ⟨rfl, b3⟩
      have k3 := HE.out W3 b3
      go_wp2_with fail
      go_returns
      exact ⟨by rw [HQ.out]; (try rfl), bstep bA b3⟩
    · have HO : Hid (q = rs.all (tagsOk 1 20)) := by rw [Hid, HK.out, hq, decide_eq_true (by omega : rs.length ≤ 30)]; rfl
      have d30 : decide ((30 : Int) < (rs.length : Int)) = false := decide_eq_false (by omega)
      clear hq
      go_enter Tryz.func49, Tryz.ntmps49
      go_wp2_with fail
      refine p1.mono ?_
      rintro e W3 ⟨rfl, b3⟩
      have k3 := HE.out W3 b3
      have bW3 := bstep bA b3
      have hz3 : w.heap.size < W3.heap.size := by have := b3.size; simp at this; omega
      go_wp2_with fail
      go_loopw [3] (fun i wr => ∃ (k : Nat), i = .int .i64 k ∧ k ≤ rs.length ∧ Below W3.heap.size W3 wr ∧ Hid (∀ x ∈ rs.take k, tagsOk 1 20 x = true)) (fun i _ => rs.length - (intOf i).toNat)
      case atStart => exact ⟨0, rfl, by omega, Below.refl _ _, by simp [Hid]⟩
      case round =>
        obtain ⟨k, rfl, hk, hB, HN⟩ := hrel
        have k4 : wr.cell? ⟨w.heap.size, 1, none⟩ = some (.slice A rs.length c) := (hB.cell (p := ⟨w.heap.size, 1, none⟩) hz3).trans k3
        by_cases hlt : k < rs.length
        · obtain ⟨b, o, y, rfl, hbl, hc3, hy⟩ := HX.out.at hlt
          have hz := h3 rs[k] (List.getElem_mem _)
          have HF : Hid (tagsOk 1 20 rs[k] = false → q = false) := fun h => by rw [HO.out]; exact all_no hlt h
          have HT : Hid (tagsOk 1 20 rs[k] = true → ∀ x ∈ rs.take (k + 1), tagsOk 1 20 x = true) := all_take hlt HN.out
          generalize rs[k] = rr at *
          obtain ⟨Ay, cy, rfl, hcy, hry⟩ := hy
          have bW := bstep bW3 hB
          have k5 : wr.cell? ⟨b, o + k, none⟩ = some (.slice Ay rr.length cy) := (bW.cell (p := ⟨b, o + k, none⟩) hbl).trans hc3
          have m0 : (0 : Int) ≤ (k : Int) := by omega
          have ml : (k : Int) < (rs.length : Int) := by omega
          have p5 := rtags1_any Ay cy rr wr (hry.below bW) (by omega)
          clear hc3 hry
          cases hq : tagsOk 1 20 rr with
          | false =>
            have HX := Lib.hid (HF.out hq)
            rw [hq] at p5
            clear hq
            go_wp2_with fail
            refine p5.mono ?_
            rintro e W5 ⟨rfl, b5⟩
            go_wp2_with fail
            go_returns
            exact ⟨by rw [HX.out]; (try rfl), bstep bW b5⟩
          | true =>
            have HX := Lib.hid (HT.out hq)
            rw [hq] at p5
            clear hq
            go_wp2_with fail
            refine p5.mono ?_
            rintro e W5 ⟨rfl, b5⟩
            go_wp2_with fail
            go_roundw
            case rel => exact ⟨k + 1, by go_num, by omega, bstep hB b5, HX.out⟩
            case measure => simp [intOf]; omega
        · obtain rfl : k = rs.length := by omega
          have HX : Hid (q = true) := by rw [Hid, HO.out, List.all_eq_true]; have := HN.out; rwa [List.take_length] at this
          go_wp2_with fail
          go_returns
          exact ⟨by rw [HX.out]; (try rfl), bstep bW3 hB⟩

/- Walks of the reference of layer 33: Valid, ValidTest, ValidRule. -/
open Go.RowKit
set_option linter.unusedVariables false

set_option maxHeartbeats 4000000 in
set_option maxRecDepth 100000 in
theorem rvalidL_any (A : Option Addr) (c : Nat) (l : List Coh) (w : World) (hV : CohsV w (.slice A l.length c) l) (hl : Sized l) :
    Calls Tryz.prog 20 #[.slice A l.length c] w fun e w' => e = .returned (.bool (cohsOk l)) ∧ Below w.heap.size w w' := by
  have HV := Lib.hid hV
  clear hV
  obtain ⟨hl1, hl2⟩ := hl
  by_cases h200 : 200 < l.length
  · have HX : Hid (cohsOk l = false) := by unfold Hid cohsOk; rw [decide_eq_false (by omega : ¬ l.length ≤ 200)]; rfl
    have d1 : (200 : Int) < (l.length : Int) := by omega
    go_enter Tryz.func20, Tryz.ntmps20
    go_wp2_with fail
    go_returns
    exact ⟨by rw [HX.out]; (try rfl), Below.refl _ _⟩
  · have HK : Hid (cohsOk l = l.all cohOk) := by unfold Hid cohsOk; rw [decide_eq_true (by omega : l.length ≤ 200)]; rfl
    have d1 : (l.length : Int) ≤ 200 := by omega
    go_enter Tryz.func20, Tryz.ntmps20
    go_wp2_with fail
    go_loopw [3] (fun i wr => ∃ (k : Nat), i = .int .i64 k ∧ k ≤ l.length ∧ Below w.heap.size w wr ∧ Hid (∀ x ∈ l.take k, cohOk x = true)) (fun i _ => l.length - (intOf i).toNat)
    case atStart => exact ⟨0, rfl, by omega, Below.refl _ _, by simp [Hid]⟩
    case round =>
      obtain ⟨k, rfl, hk, hB, HN⟩ := hrel
      by_cases hlt : k < l.length
      · obtain ⟨b, o, x, rfl, hbl, hc1, hc2, hr⟩ := HV.out.at hlt
        obtain ⟨hz1, hz2⟩ := hl2 l[k] (List.getElem_mem _)
        have HF : Hid (cohOk l[k] = false → cohsOk l = false) := fun h => by rw [HK.out]; exact all_no hlt h
        have HT : Hid (cohOk l[k] = true → ∀ x ∈ l.take (k + 1), cohOk x = true) := all_take hlt HN.out
        generalize l[k] = cc at *
        obtain ⟨F, hF⟩ : ∃ F : ByteArray, (⟨cc.form.toArray⟩ : ByteArray) = F := ⟨_, rfl⟩
        have hFd : cc.form = F.data.toList := by rw [← hF]
        have k1 : wr.cell? ⟨b, o + k * 2, none⟩ = some (.string F) := (hB.cell (p := ⟨b, o + k * 2, none⟩) hbl).trans (by rw [hc1, S, hF])
        have k2 : wr.cell? ⟨b, o + k * 2 + 1, none⟩ = some x := (hB.cell (p := ⟨b, o + k * 2 + 1, none⟩) hbl).trans hc2
        have k0 : (0 : Int) ≤ (k : Int) := by omega
        have kl : (k : Int) < (l.length : Int) := by omega
        have p2 := rvcohort_any F cc.reads x wr (hr.below hB) (by omega) hz2
        have e1 : cohOk ⟨F.data.toList, cc.reads⟩ = cohOk cc := by rw [← hFd]
        rw [e1] at p2
        clear hF hFd hc1 hc2 hr e1
        cases hq : cohOk cc with
        | false =>
          have HX := Lib.hid (HF.out hq)
          rw [hq] at p2
          clear hq
          go_wp2_with fail
          refine p2.mono ?_
          rintro e W3 ⟨rfl, b3⟩
          go_wp2_with fail
          go_returns
          exact ⟨by rw [HX.out]; (try rfl), bstep hB b3⟩
        | true =>
          have HX := Lib.hid (HT.out hq)
          rw [hq] at p2
          clear hq
          go_wp2_with fail
          refine p2.mono ?_
          rintro e W3 ⟨rfl, b3⟩
          go_wp2_with fail
          go_roundw
          case rel => exact ⟨k + 1, by go_num, by omega, bstep hB b3, HX.out⟩
          case measure => simp [intOf]; omega
      · obtain rfl : k = l.length := by omega
        have HX : Hid (cohsOk l = true) := by rw [Hid, HK.out, List.all_eq_true]; have := HN.out; rwa [List.take_length] at this
        go_wp2_with fail
        go_returns
        exact ⟨by rw [HX.out]; (try rfl), hB⟩
theorem tstOk_eq2 (t : Tst) : tstOk t = (decide (-99 ≤ t.at_) && decide (t.at_ ≤ 99) && !(t.scan && decide (t.at_ = 0)) && tagsOk 1 20 t.tags && tagsOk 0 20 t.barrier && (t.scan || decide (t.barrier.length = 0))) := by
  unfold tstOk
  cases t.scan <;> cases t.barrier <;> simp
set_option maxHeartbeats 8000000 in
set_option maxRecDepth 100000 in
theorem rvtest_any (n : Int) (s b1 b2 : Bool) (g r : List Bs) (AT AY : Option Addr) (cT cY : Nat) (w : World) (hT : RowAt w AT (g.map S)) (hY : RowAt w AY (r.map S)) (h1 : g.length ≤ 1000000) (h2 : r.length ≤ 1000000) :
    Calls Tryz.prog 51 #[.agg #[.int .i64 n, .bool s, .bool b1, .bool b2, .slice AT g.length cT, .slice AY r.length cY]] w fun e w' => e = .returned (.bool (tstOk ⟨n, s, b1, b2, g, r⟩)) ∧ Below w.heap.size w w' := by
  obtain ⟨W0, hW0⟩ : ∃ W0, W0 = w.alloc (.cells #[.int .i64 n, .bool s, .bool b1, .bool b2, .slice AT g.length cT, .slice AY r.length cY] 79) := ⟨_, rfl⟩
  have bA : Below w.heap.size w W0 := by rw [hW0]; exact (Below.refl _ _).alloc (Nat.le_refl _) _
  have hr0 : W0.heap[w.heap.size]? = some (.cells #[.int .i64 n, .bool s, .bool b1, .bool b2, .slice AT g.length cT, .slice AY r.length cY] 79 (0, 0)) := by rw [hW0]; exact heap_alloc_new w _
  have hz0 : w.heap.size < W0.heap.size := lt_of_block hr0
  have p1 := rtags1_any AT cT g W0 (hT.below bA) h1
  have P2 : Hid (∀ W3, Below W0.heap.size W0 W3 → Calls Tryz.prog 50 #[.slice AY r.length cY, .int .i64 0, .int .i64 20] W3 fun e w' => e = .returned (.bool (tagsOk 0 20 r)) ∧ Below W3.heap.size W3 w') := fun W3 b3 => rtags0_any AY cY r W3 (hY.below (bstep bA b3)) h2
  have HB : Hid (∀ W3, Below W0.heap.size W0 W3 → W3.heap[w.heap.size]? = some (.cells #[.int .i64 n, .bool s, .bool b1, .bool b2, .slice AT g.length cT, .slice AY r.length cY] 79 (0, 0))) := fun W3 b3 => (b3.block _ hz0).trans hr0
  have HK : Hid (tstOk ⟨n, s, b1, b2, g, r⟩ = (decide (-99 ≤ n) && decide (n ≤ 99) && !(s && decide (n = 0)) && tagsOk 1 20 g && tagsOk 0 20 r && (s || decide (r.length = 0)))) := tstOk_eq2 _
  generalize tstOk ⟨n, s, b1, b2, g, r⟩ = q at *
  generalize tagsOk 1 20 g = qg at *
  generalize tagsOk 0 20 r = qr at *
  clear hT hY hr0
  by_cases hn1 : -99 ≤ n
  · have d1 : decide (-99 ≤ n) = true := decide_eq_true hn1
    by_cases hn2 : n ≤ 99
    · have d2 : decide (n ≤ 99) = true := decide_eq_true hn2
      by_cases hs : s = true ∧ n = 0
      · obtain ⟨rfl, rfl⟩ := hs
        have HQ : Hid (q = false) := by rw [Hid, HK.out]; simp
        go_enter Tryz.func51, Tryz.ntmps51
        go_wp2_with fail
        go_returns
        exact ⟨ret_bool (by rw [HQ.out]), by rw [← hW0]; exact bA⟩
      · have hs2 : s = false ∨ (s = true ∧ (n != 0) = true) := by
          cases s
          · exact Or.inl rfl
          · exact Or.inr ⟨rfl, by simp; exact fun e => hs ⟨rfl, e⟩⟩
        have HQ : Hid (q = (qg && qr && (s || ((r.length : Int) == 0)))) := by
          rw [Hid, HK.out, d1, d2, show decide (r.length = 0) = ((r.length : Int) == 0) by rw [Bool.eq_iff_iff]; simp only [decide_eq_true_iff, beq_iff_eq]; omega]
          rcases hs2 with rfl | ⟨rfl, h⟩
          · simp
          · have : decide (n = 0) = false := by simpa using h
            rw [this]; simp
        clear hs
        rcases hs2 with rfl | ⟨rfl, hs3⟩
        all_goals
          cases qg with
          | false =>
            go_enter Tryz.func51, Tryz.ntmps51
            go_wp2_with fail
            rw [← hW0]
            refine p1.mono ?_
            rintro e W3 ⟨rfl, b3⟩
            go_wp2_with fail
            go_returns
            exact ⟨ret_bool (by rw [HQ.out]; simp), bstep bA b3⟩
          | true =>
            go_enter Tryz.func51, Tryz.ntmps51
            go_wp2_with fail
            rw [← hW0]
            refine p1.mono ?_
            rintro e W3 ⟨rfl, b3⟩
            have kk := HB.out W3 b3
            have k5 := cell_of_row W3 w.heap.size 5 _ _ (0, 0) kk
            simp at k5
            clear kk
            have p2 := P2.out W3 b3
            go_wp2_with fail
            refine p2.mono ?_
            rintro e W4 ⟨rfl, b4⟩
            have b4' := bstep b3 b4
            have kk := HB.out W4 b4'
            have k1 := cell_of_row W4 w.heap.size 1 _ _ (0, 0) kk
            have k6 := cell_of_row W4 w.heap.size 5 _ _ (0, 0) kk
            simp at k1 k6
            clear kk k5
            have bE := bstep bA b4'
            cases qr with
            | false =>
              go_wp2_with fail
              go_returns
              exact ⟨ret_bool (by rw [HQ.out]; first | rfl | simp), bE⟩
            | true =>
              go_wp2_with fail
              go_returns
              exact ⟨ret_bool (by rw [HQ.out]; first | rfl | simp), bE⟩
    · have d2 : decide (n ≤ 99) = false := decide_eq_false hn2
      have HQ : Hid (q = false) := by rw [Hid, HK.out, d2]; simp
      go_enter Tryz.func51, Tryz.ntmps51
      go_wp2_with fail
      go_returns
      exact ⟨ret_bool (by rw [HQ.out]), by rw [← hW0]; exact bA⟩
  · have d1 : decide (-99 ≤ n) = false := decide_eq_false hn1
    have HQ : Hid (q = false) := by rw [Hid, HK.out, d1]; simp
    go_enter Tryz.func51, Tryz.ntmps51
    go_wp2_with fail
    go_returns
    exact ⟨ret_bool (by rw [HQ.out]), by rw [← hW0]; exact bA⟩
set_option maxHeartbeats 8000000 in
set_option maxRecDepth 100000 in
theorem rvrule_any (r : Rul) (A1 A2 : Option Addr) (c1 c2 : Nat) (w : World) (hV : RulV w (.slice A1 r.target.length c1, .slice A2 r.tests.length c2) r) (hl : SizedR r) :
    Calls Tryz.prog 23 #[.agg #[.int .i64 r.op, .slice A1 r.target.length c1, .slice A2 r.tests.length c2, .bool r.uns]] w fun e w' => e = .returned (.bool (rulOk r)) ∧ Below w.heap.size w w' := by
  obtain ⟨hl1, hl2, hl3⟩ := hl
  obtain ⟨h1, h2⟩ := hV
  obtain ⟨A', c', e', hc', hr1⟩ := h1
  cases e'
  obtain ⟨W0, hW0⟩ : ∃ W0, W0 = w.alloc (.cells #[.int .i64 r.op, .slice A1 r.target.length c1, .slice A2 r.tests.length c2, .bool r.uns] 42) := ⟨_, rfl⟩
  have bA : Below w.heap.size w W0 := by rw [hW0]; exact (Below.refl _ _).alloc (Nat.le_refl _) _
  have hr0 : W0.heap[w.heap.size]? = some (.cells #[.int .i64 r.op, .slice A1 r.target.length c1, .slice A2 r.tests.length c2, .bool r.uns] 42 (0, 0)) := by rw [hW0]; exact heap_alloc_new w _
  have hz0 : w.heap.size < W0.heap.size := lt_of_block hr0
  have p1 := rtags1_any A1 c1 r.target W0 (hr1.below bA) hl1
  have HB : Hid (∀ W3, Below W0.heap.size W0 W3 → W3.heap[w.heap.size]? = some (.cells #[.int .i64 r.op, .slice A1 r.target.length c1, .slice A2 r.tests.length c2, .bool r.uns] 42 (0, 0))) := fun W3 b3 => (b3.block _ hz0).trans hr0
  have H2 := Lib.hid h2
  clear hr1 h2 hc' hr0
  by_cases ho : r.op = 1 ∨ r.op = 2
  · have d0 : ((r.op != 1) = true ∧ (r.op != 2) = false) ∨ (r.op != 1) = false := by
      rcases ho with h | h
      · exact Or.inr (by rw [h]; rfl)
      · exact Or.inl (by rw [h]; exact ⟨rfl, rfl⟩)
    have HO : Hid (rulOk r = (tagsOk 1 20 r.target && decide (r.tests.length ≤ 10) && r.tests.all tstOk)) := by
      unfold Hid rulOk
      rw [show (decide (r.op = 1) || decide (r.op = 2)) = true by simpa using ho]; rfl
    clear ho
    cases hq : tagsOk 1 20 r.target with
    | false =>
      have HX : Hid (rulOk r = false) := by rw [Hid, HO.out, hq]; rfl
      rw [hq] at p1
      clear hq
      rcases d0 with ⟨d0, d2⟩ | d0
      all_goals
        go_enter Tryz.func23, Tryz.ntmps23
        go_wp2_with fail
        rw [← hW0]
        refine p1.mono ?_
        rintro e W3 ⟨rfl, b3⟩
        go_wp2_with fail
        go_returns
        exact ⟨by rw [HX.out]; (try rfl), bstep bA b3⟩
    | true =>
      rw [hq] at p1
      by_cases h10 : 10 < r.tests.length
      · have HX : Hid (rulOk r = false) := by rw [Hid, HO.out, decide_eq_false (by omega : ¬ r.tests.length ≤ 10)]; simp
        have d3 : decide ((10 : Int) < (r.tests.length : Int)) = true := decide_eq_true (by omega)
        clear hq
        rcases d0 with ⟨d0, d2⟩ | d0
        all_goals
          go_enter Tryz.func23, Tryz.ntmps23
          go_wp2_with fail
          rw [← hW0]
          refine p1.mono ?_
          rintro e W3 ⟨rfl, b3⟩
          have kk := HB.out W3 b3
          have k3 := cell_of_row W3 w.heap.size 2 _ _ (0, 0) kk
          simp at k3
          clear kk
          go_wp2_with fail
          go_returns
          exact ⟨by rw [HX.out]; (try rfl), bstep bA b3⟩
      · have HK : Hid (rulOk r = r.tests.all tstOk) := by rw [Hid, HO.out, hq, decide_eq_true (by omega : r.tests.length ≤ 10)]; rfl
        have d3 : decide ((10 : Int) < (r.tests.length : Int)) = false := decide_eq_false (by omega)
        clear hq
        rcases d0 with ⟨d0, d2⟩ | d0
        all_goals
          go_enter Tryz.func23, Tryz.ntmps23
          go_wp2_with fail
          rw [← hW0]
          refine p1.mono ?_
          rintro e W3 ⟨rfl, b3⟩
          have kk := HB.out W3 b3
          have k3 := cell_of_row W3 w.heap.size 2 _ _ (0, 0) kk
          simp at k3
          clear kk
          have bB := bstep bA b3
          have H3 := Lib.hid (H2.out.below bB)
          go_wp2_with fail
          clear hW0
          go_loopw [3] (fun i wr => ∃ (k : Nat), i = .int .i64 k ∧ k ≤ r.tests.length ∧ Below W3.heap.size W3 wr ∧ Hid (∀ x ∈ r.tests.take k, tstOk x = true)) (fun i _ => r.tests.length - (intOf i).toNat)
          case atStart => exact ⟨0, rfl, by omega, Below.refl _ _, by simp [Hid]⟩
          case round =>
            obtain ⟨k, rfl, hk, hB, HN⟩ := hrel
            have kk := HB.out wr (bstep b3 hB)
            have k4 := cell_of_row wr w.heap.size 2 _ _ (0, 0) kk
            simp at k4
            clear kk
            by_cases hlt : k < r.tests.length
            · obtain ⟨b, o, AT, cT, AY, cY, rfl, hbl, g0, g1, g2, g3, g4, g5, hRT, hRY⟩ := H3.out.at hlt
              obtain ⟨hz1, hz2⟩ := hl3 r.tests[k] (List.getElem_mem _)
              have HF : Hid (tstOk r.tests[k] = false → rulOk r = false) := fun h => by rw [HK.out]; exact all_no hlt h
              have HT : Hid (tstOk r.tests[k] = true → ∀ x ∈ r.tests.take (k + 1), tstOk x = true) := all_take hlt HN.out
              generalize r.tests[k] = tt at *
              have q0 := (hB.cell (p := ⟨b, o + k * 6, none⟩) hbl).trans g0
              have q1 := (hB.cell (p := ⟨b, o + k * 6 + 1, none⟩) hbl).trans g1
              have q2 := (hB.cell (p := ⟨b, o + k * 6 + 2, none⟩) hbl).trans g2
              have q3 := (hB.cell (p := ⟨b, o + k * 6 + 3, none⟩) hbl).trans g3
              have q4 := (hB.cell (p := ⟨b, o + k * 6 + 4, none⟩) hbl).trans g4
              have q5 := (hB.cell (p := ⟨b, o + k * 6 + 5, none⟩) hbl).trans g5
              have k0 : (0 : Int) ≤ (k : Int) := by omega
              have kl : (k : Int) < (r.tests.length : Int) := by omega
              have p5 := rvtest_any tt.at_ tt.scan tt.not_ tt.careful tt.tags tt.barrier AT AY cT cY wr (hRT.below hB) (hRY.below hB) hz1 hz2
              have e5 : (⟨tt.at_, tt.scan, tt.not_, tt.careful, tt.tags, tt.barrier⟩ : Tst) = tt := rfl
              rw [e5] at p5
              clear g0 g1 g2 g3 g4 g5 hRT hRY e5
              cases hq : tstOk tt with
              | false =>
                have HX := Lib.hid (HF.out hq)
                rw [hq] at p5
                clear hq
                go_wp2_with fail
                refine p5.mono ?_
                rintro e W5 ⟨rfl, b5⟩
                go_wp2_with fail
                go_returns
                exact ⟨by rw [HX.out]; (try rfl), bstep (bstep bB hB) b5⟩
              | true =>
                have HX := Lib.hid (HT.out hq)
                rw [hq] at p5
                clear hq
                go_wp2_with fail
                refine p5.mono ?_
                rintro e W5 ⟨rfl, b5⟩
                go_wp2_with fail
                go_roundw
                case rel => exact ⟨k + 1, by go_num, by omega, bstep hB b5, HX.out⟩
                case measure => simp [intOf]; omega
            · obtain rfl : k = r.tests.length := by omega
              have HX : Hid (rulOk r = true) := by rw [Hid, HK.out, List.all_eq_true]; have := HN.out; rwa [List.take_length] at this
              go_wp2_with fail
              go_returns
              exact ⟨by rw [HX.out]; (try rfl), bstep bB hB⟩
  · have d1 : (r.op != 1) = true := by simp; exact fun e => ho (Or.inl e)
    have d2 : (r.op != 2) = true := by simp; exact fun e => ho (Or.inr e)
    have HX : Hid (rulOk r = false) := by
      unfold Hid rulOk
      rw [show (decide (r.op = 1) || decide (r.op = 2)) = false by simpa using ho]; rfl
    clear ho
    go_enter Tryz.func23, Tryz.ntmps23
    go_wp2_with fail
    go_returns
    exact ⟨by rw [HX.out]; (try rfl), by rw [← hW0]; exact bA⟩
end Go.Proofs.YtplipnchkkhdaaaGreatDoor
