/- LettersCase: the law's walk. -/
import Derived.Test.YtbpfbceagdikoaaDoorAw
import Derived.Test.YtbpfbceagdikoaaDoorLc
import Derived.Test.YtbpfbceagdikoaaDoorLa
import Derived.Test.YtbpfbceagdikoaaDoorPlain6
import Derived.Deep.RegionHeld3
namespace Go.Proofs.YtbpfbceagdikoaaDoor
open Go.RowKit
set_option linter.unusedVariables false

/-- what stands behind each call of a region that draws: the tables, and all that lay there -/
theorem keepTB {w0 w1 wr : World} (hb : Below w0.heap.size w0 w1) (h : Tabs w0 ∧ Below wr.heap.size wr w0) : Tabs w1 ∧ Below wr.heap.size wr w1 :=
  ⟨h.1.below hb, bstep h.2 hb⟩
theorem keepTD {wr : World} (hT : Tabs wr) : Tabs wr.drew ∧ Below wr.heap.size wr wr.drew := ⟨hT.below (Below.refl _ _).drew, (Below.refl _ _).drew⟩

theorem splitL_mem {l p : Bs} (h : p ∈ splitL l) : p.length ≤ l.length := by
  unfold splitL splitR at h
  split at h
  · cases h
  · split at h
    · cases h
    · exact piece_le h

set_option maxHeartbeats 4000000 in
set_option maxRecDepth 100000 in
theorem case_law (s : ByteArray) (w : World) (hT : Tabs w) :
    Calls Tryd.prog 6 #[.string s] w fun e w' => e = .returned (.bool true) ∧ Below w.heap.size w w' := by
  have hA : Below w.heap.size w w := Below.refl _ _
  rcases Nat.lt_or_ge 2000 s.size with hs | hs
  · go_enter Tryd.func6, Tryd.ntmps6
    go_wp2_with fail
    all_goals first
      | (go_at_call 17; refine (awake_any _ hT).mono ?_; rintro e w1 ⟨rfl, hb1⟩; go_wp2_with fail; go_returns; exact ⟨rfl, hb1⟩)
      | (exfalso; go_light; omega)
  · obtain ⟨a, ha⟩ : ∃ a : ByteArray, (⟨(changeL lowR s.data.toList).toArray⟩ : ByteArray) = a := ⟨_, rfl⟩
    obtain ⟨b, hb⟩ : ∃ b : ByteArray, (⟨(changeL upR s.data.toList).toArray⟩ : ByteArray) = b := ⟨_, rfl⟩
    have had : a.data.toList = changeL lowR s.data.toList := by rw [← ha]
    have hbd : b.data.toList = changeL upR s.data.toList := by rw [← hb]
    have has : a.size = s.size := by rw [Lib.size_eq, had, changeL_length good_low, ← Lib.size_eq]
    have hbs : b.size = s.size := by rw [Lib.size_eq, hbd, changeL_length good_up, ← Lib.size_eq]
    have kLs := fun W hW => change_Lower s W hW (by omega)
    have kUs := fun W hW => change_Upper s W hW (by omega)
    have kLb := fun W hW => change_Lower b W hW (by omega)
    have kUa := fun W hW => change_Upper a W hW (by omega)
    rw [hbd, change_twice good_up low_up, ha] at kLb
    rw [had, change_twice good_low up_low, hb] at kUa
    rw [ha] at kLs
    rw [hb] at kUs
    have p1 := fun W hW => split_every s W hW
    have p2 := fun W hW => split_every a W hW
    have p3 := fun W hW => split_every b W hW
    obtain ⟨q1, q2, q3⟩ := split_change good_low s.data.toList
    obtain ⟨r1, r2, r3⟩ := split_change good_up s.data.toList
    rw [had, q1, q2, q3] at p2
    rw [hbd, r1, r2, r3] at p3
    have hlen := splitL_le s.data.toList
    have hval := split_valid s.data.toList
    rw [← Lib.size_eq] at hlen
    have hpl : ∀ p ∈ splitL s.data.toList, p.length ≤ 2000 := fun p hp => by
      have := splitL_mem hp
      rw [← Lib.size_eq] at this
      omega
    clear q1 q2 q3 r1 r2 r3 had hbd ha hb
    generalize splitL s.data.toList = L at p1 p2 p3 hlen hval hpl
    generalize splitAt s.data.toList = sa at p1 p2 p3
    generalize splitE s.data.toList = se at p1 p2 p3
    have haa : (a.toList == a.toList) = true := beq_self_eq_true _
    have hbb : (b.toList == b.toList) = true := beq_self_eq_true _
    go_enter Tryd.func6, Tryd.ntmps6
    go_wp2_with (first
      | (go_at_call 24; refine (kLs _ (hT.below hA)).mono ?_; rintro e wx ⟨rfl, hbx⟩; replace hA := bstep hA hbx)
      | (go_at_call 24; refine (kLb _ (hT.below hA)).mono ?_; rintro e wx ⟨rfl, hbx⟩; replace hA := bstep hA hbx)
      | (go_at_call 26; refine (kUs _ (hT.below hA)).mono ?_; rintro e wx ⟨rfl, hbx⟩; replace hA := bstep hA hbx)
      | (go_at_call 26; refine (kUa _ (hT.below hA)).mono ?_; rintro e wx ⟨rfl, hbx⟩; replace hA := bstep hA hbx))
    refine (p1 _ (hT.below hA)).mono ?_
    rintro e w1 ⟨A1, c1, rfl, hcap1, hrow1, hb1⟩
    have hA1 := bstep hA hb1
    go_wp2_with fail
    refine (p2 _ (hT.below hA1)).mono ?_
    rintro e w2 ⟨A2, c2, rfl, hcap2, hrow2, hb2⟩
    have hA2 := bstep hA1 hb2
    go_wp2_with fail
    refine (p3 _ (hT.below hA2)).mono ?_
    rintro e w3 ⟨A3, c3, rfl, hcap3, hrow3, hb3⟩
    have hA3 := bstep hA2 hb3
    have hrow2' := hrow2.below hb3
    have hrow1' := (hrow1.below hb2).below hb3
    clear hrow1 hrow2
    go_wp2_with fail
    have hlen2 : L.length ≤ 2000 := by omega
    clear kLs kUs kLb kUa p1 p2 p3 hA hA1 hA2 hbs has haa hbb
    go_loopw [14] (fun i wr => ∃ (k : Nat), i = .int .i64 k ∧ k ≤ L.length ∧ Below w.heap.size w wr ∧ Below w3.heap.size w3 wr) (fun i _ => L.length - (intOf i).toNat)
    case atStart => exact ⟨0, rfl, by omega, hA3, Below.refl _ _⟩
    case round =>
      obtain ⟨k, rfl, hk, hbr, hb3r⟩ := hrel
      have hTr := hT.below hbr
      by_cases hlt : k < L.length
      · obtain ⟨B1, o1, rfl, hbl1, hcell1⟩ := (hrow1'.below hb3r) (by intro e; rw [List.map_eq_nil_iff] at e; rw [e] at hlt; simp at hlt)
        obtain ⟨B2, o2, rfl, hbl2, hcell2⟩ := (hrow2'.below hb3r) (by intro e; rw [List.map_eq_nil_iff, List.map_eq_nil_iff] at e; rw [e] at hlt; simp at hlt)
        obtain ⟨B3, o3, rfl, hbl3, hcell3⟩ := (hrow3.below hb3r) (by intro e; rw [List.map_eq_nil_iff, List.map_eq_nil_iff] at e; rw [e] at hlt; simp at hlt)
        have hv := hval _ (List.getElem_mem hlt)
        have hp := hpl _ (List.getElem_mem hlt)
        obtain ⟨q1, q2⟩ := case_piece hv
        obtain ⟨t, ht⟩ : ∃ t : ByteArray, (⟨L[k].toArray⟩ : ByteArray) = t := ⟨_, rfl⟩
        obtain ⟨tm, htm⟩ : ∃ t : ByteArray, (⟨(changeP lowR L[k]).toArray⟩ : ByteArray) = t := ⟨_, rfl⟩
        obtain ⟨tn, htn⟩ : ∃ t : ByteArray, (⟨(changeP upR L[k]).toArray⟩ : ByteArray) = t := ⟨_, rfl⟩
        have hc1 : wr.cell? ⟨B1, o1 + k, none⟩ = some (.string t) := by rw [← ht]; exact hcell1 k _ (getS hlt)
        have hc2 : wr.cell? ⟨B2, o2 + k, none⟩ = some (.string tm) := by rw [← htm]; have := hcell2 k _ (getS (show k < (L.map (changeP lowR)).length by simp; exact hlt)); rwa [List.getElem_map] at this
        have hc3 : wr.cell? ⟨B3, o3 + k, none⟩ = some (.string tn) := by rw [← htn]; have := hcell3 k _ (getS (show k < (L.map (changeP upR)).length by simp; exact hlt)); rwa [List.getElem_map] at this
        have e1 : t.data.toList = L[k] := by rw [← ht]
        have e2 : tm.data.toList = changeP lowR L[k] := by rw [← htm]
        have e3 : tn.data.toList = changeP upR L[k] := by rw [← htn]
        have d1 := fun W hW => class_any t W hW
        have d2 := fun W hW => class_any tm W hW
        have d3 := fun W hW => class_any tn W hW
        rw [e1] at d1
        rw [e2] at d2
        rw [e3] at d3
        clear hcell1 hcell2 hcell3 e1 e2 e3 hval hpl hv
        by_cases hq : classL L[k] = 1 ∨ classL L[k] = 2
        · obtain ⟨u1, u2⟩ := q1 hq
          rw [u1] at d2
          clear q1 q2 u1 ht htm htn
          generalize classL L[k] = x1 at d1 hq
          generalize classL (changeP upR L[k]) = x3 at d3 u2
          have hbr0 := hbr
          rcases hq with rfl | rfl <;> rcases u2 with rfl | rfl
          all_goals
            go_wp2_with (first
              | (go_at_call_of 13 (Value.string t); refine (d1 _ (hT.below hbr)).mono ?_; rintro e wx ⟨rfl, hbx⟩; replace hbr := bstep hbr hbx; replace hb3r := bstep hb3r hbx; replace hc2 := (hbx.cell (cell_lt hc2)).trans hc2; replace hc3 := (hbx.cell (cell_lt hc3)).trans hc3)
              | (go_at_call_of 13 (Value.string tm); refine (d2 _ (hT.below hbr)).mono ?_; rintro e wx ⟨rfl, hbx⟩; replace hbr := bstep hbr hbx; replace hb3r := bstep hb3r hbx; replace hc3 := (hbx.cell (cell_lt hc3)).trans hc3)
              | (go_at_call_of 13 (Value.string tn); refine (d3 _ (hT.below hbr)).mono ?_; rintro e wx ⟨rfl, hbx⟩; replace hbr := bstep hbr hbx; replace hb3r := bstep hb3r hbx; replace hc3 := (hbx.cell (cell_lt hc3)).trans hc3))
            go_round
            case rel => exact ⟨k + 1, by go_num, by omega, hbr, hb3r⟩
            case measure => simp [intOf]; omega
        · obtain ⟨u1, u2⟩ := q2 hq
          obtain rfl : tm = t := by rw [← htm, ← ht, u1]
          obtain rfl : tn = tm := by rw [← htn, ← ht, u2]
          clear q1 q2 u1 u2 ht htm htn d2 d3
          generalize classL L[k] = x1 at d1 hq
          have y1 : (x1 == 1) = false := by simp; omega
          have y2 : (x1 == 2) = false := by simp; omega
          have htt : (tn.toList == tn.toList) = true := beq_self_eq_true _
          clear hq
          have hk0 : (0 : Int) ≤ (k : Int) := by omega
          have hk1 : (k : Int) < (L.length : Int) := by omega
          go_wp2_with (first
              | (go_at_call_of 13 (Value.string tn); refine (d1 _ (hT.below hbr)).mono ?_; rintro e wx ⟨rfl, hbx⟩; replace hbr := bstep hbr hbx; replace hb3r := bstep hb3r hbx; replace hc1 := (hbx.cell (cell_lt hc1)).trans hc1; replace hc2 := (hbx.cell (cell_lt hc2)).trans hc2; replace hc3 := (hbx.cell (cell_lt hc3)).trans hc3))
          go_region_held3 (fun w' => w'.cell? ⟨B1, o1 + k, none⟩ = some (.string tn) ∧ w'.cell? ⟨B2, o2 + k, none⟩ = some (.string tn) ∧ w'.cell? ⟨B3, o3 + k, none⟩ = some (.string tn) ∧ Below w.heap.size w w' ∧ Below w3.heap.size w3 w') (first | assumption | exact ⟨hc1, hc2, hc3, hbr.drew, hb3r.drew⟩) (fail)
          all_goals go_wp2_with fail
          all_goals go_round
          all_goals first
            | (case rel => exact ⟨k + 1, by go_num, by omega, hbr.drew, hb3r.drew⟩)
            | (case measure => simp [intOf]; omega)
      · obtain rfl : k = L.length := by omega
        clear hval hpl hrow1' hrow2' hrow3
        go_wp2_with (go_at_call 17; refine (awake_any _ (hT.below hbr)).mono ?_; rintro e w8 ⟨rfl, hb8⟩; have hA8 := bstep hbr hb8)
        go_returns
        exact ⟨rfl, hA8⟩
end Go.Proofs.YtbpfbceagdikoaaDoor
