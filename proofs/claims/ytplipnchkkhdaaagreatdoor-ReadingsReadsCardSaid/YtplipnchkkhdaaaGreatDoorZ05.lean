/- Walks of layer 33: ValidRule. -/
import Derived.Test.YtplipnchkkhdaaaGreatDoorZ04
namespace Go.Proofs.YtplipnchkkhdaaaGreatDoor
open Go.RowKit
set_option linter.unusedVariables false

def SizedR (r : Rul) : Prop := r.target.length ≤ 1000000 ∧ r.tests.length ≤ 1000000 ∧ ∀ t ∈ r.tests, t.tags.length ≤ 1000000 ∧ t.barrier.length ≤ 1000000
theorem TstsV.at {w : World} {A : Option Addr} {n c : Nat} {l : List Tst} (h : TstsV w (.slice A n c) l) {k : Nat} (hk : k < l.length) : ∃ b o AT cT AY cY, A = some ⟨b, o, none⟩ ∧ b < w.heap.size ∧
    w.cell? ⟨b, o + k * 6, none⟩ = some (.int .i64 l[k].at_) ∧ w.cell? ⟨b, o + k * 6 + 1, none⟩ = some (.bool l[k].scan) ∧ w.cell? ⟨b, o + k * 6 + 2, none⟩ = some (.bool l[k].not_) ∧ w.cell? ⟨b, o + k * 6 + 3, none⟩ = some (.bool l[k].careful) ∧
    w.cell? ⟨b, o + k * 6 + 4, none⟩ = some (.slice AT l[k].tags.length cT) ∧ w.cell? ⟨b, o + k * 6 + 5, none⟩ = some (.slice AY l[k].barrier.length cY) ∧ RowAt w AT (l[k].tags.map S) ∧ RowAt w AY (l[k].barrier.map S) := by
  obtain ⟨xs, ⟨A', c', e, hc, hr⟩, ha⟩ := h
  have hl := ha.length
  cases e
  have hne : tstCells l xs ≠ [] := by
    intro e
    have := tstCells_len l xs hl
    rw [e] at this
    simp at this
    omega
  obtain ⟨b, o, rfl, hlt, hcell⟩ := hr hne
  obtain ⟨g1, g2, g3, g4, g5, g6⟩ := tstCells_get l xs k hk (by omega)
  obtain ⟨⟨AT, cT, eT, hcT, hT⟩, ⟨AY, cY, eY, hcY, hY⟩⟩ := ha.get k (by omega) hk
  rw [eT] at g5
  rw [eY] at g6
  rw [show 6 * k = k * 6 by omega] at g1 g2 g3 g4 g5 g6
  exact ⟨b, o, AT, cT, AY, cY, rfl, hlt, hcell _ _ g1, hcell _ _ g2, hcell _ _ g3, hcell _ _ g4, hcell _ _ g5, hcell _ _ g6, hT, hY⟩
theorem tstOk_eq (t : Tst) : tstOk t = (decide (-99 ≤ t.at_) && decide (t.at_ ≤ 99) && !(t.scan && decide (t.at_ = 0)) && tagsOk 1 20 t.tags && (decide (t.barrier.length ≤ 20) && t.barrier.all tagOk) && !(!t.scan && !t.barrier.isEmpty)) := by
  unfold tstOk
  have : tagsOk 0 20 t.barrier = (decide (t.barrier.length ≤ 20) && t.barrier.all tagOk) := by unfold tagsOk; simp
  rw [this]
set_option maxHeartbeats 8000000 in
set_option maxRecDepth 100000 in
theorem vrule_any (r : Rul) (A1 A2 : Option Addr) (c1 c2 : Nat) (w : World) (hT : Tabs w) (hV : RulV w (.slice A1 r.target.length c1, .slice A2 r.tests.length c2) r) (hl : SizedR r) :
    Calls Tryz.prog 22 #[.agg #[.int .i64 r.op, .slice A1 r.target.length c1, .slice A2 r.tests.length c2, .bool r.uns]] w fun e w' => e = .returned (.bool (rulOk r)) ∧ Below w.heap.size w w' := by
  obtain ⟨hl1, hl2, hl3⟩ := hl
  obtain ⟨h1, h2⟩ := hV
  obtain ⟨A', c', e', hc', hr1⟩ := h1
  cases e'
  have bA : Below w.heap.size w (w.alloc (.cells #[.int .i64 r.op, .slice A1 r.target.length c1, .slice A2 r.tests.length c2, .bool r.uns] 42)) := (Below.refl _ _).alloc (Nat.le_refl _) _
  have p1 := tags_any A1 c1 r.target _ (hT.below bA) (hr1.below bA) (by omega)
  have HE0 : Hid (∀ W3, Below (w.alloc (.cells #[.int .i64 r.op, .slice A1 r.target.length c1, .slice A2 r.tests.length c2, .bool r.uns] 42)).heap.size (w.alloc (.cells #[.int .i64 r.op, .slice A1 r.target.length c1, .slice A2 r.tests.length c2, .bool r.uns] 42)) W3 → W3.cell? ⟨w.heap.size, 2, none⟩ = some (.slice A2 r.tests.length c2)) := fun W3 b3 =>
    (b3.cell (p := ⟨w.heap.size, 2, none⟩) (by simp)).trans (at3 w #[.int .i64 r.op, .slice A1 r.target.length c1, .slice A2 r.tests.length c2, .bool r.uns] 42 2 _ rfl)
  have H2 := Lib.hid h2
  clear hr1 h2 hc'
  by_cases ho : r.op = 1 ∨ r.op = 2
  · have d0 : ((r.op != 1) = true ∧ (r.op != 2) = false) ∨ (r.op != 1) = false := by
      rcases ho with h | h
      · exact Or.inr (by rw [h]; rfl)
      · exact Or.inl (by rw [h]; exact ⟨rfl, rfl⟩)
    have HO : Hid (rulOk r = (tagsOk 1 20 r.target && decide (r.tests.length ≤ 10) && r.tests.all tstOk)) := by
      unfold Hid rulOk
      rw [show (decide (r.op = 1) || decide (r.op = 2)) = true by simpa using ho]; rfl
    have d1 : ∀ W3 : World, True := fun _ => trivial
    clear ho
    cases hq : tagsOk 1 20 r.target with
    | false =>
      have HX : Hid (rulOk r = false) := by rw [Hid, HO.out, hq]; rfl
      rw [hq] at p1
      clear hq
      rcases d0 with ⟨d0, d2⟩ | d0
      all_goals
        go_enter Tryz.func22, Tryz.ntmps22
        go_wp2_with fail
        refine p1.mono ?_
        rintro e W3 ⟨rfl, b3⟩
        go_wp2_with fail
        go_returns
        exact ⟨by rw [HX.out]; (try rfl), bstep bA b3⟩
    | true =>
      rw [hq] at p1
      by_cases h10 : 10 < r.tests.length
      · have HX : Hid (rulOk r = false) := by rw [Hid, HO.out, decide_eq_false (by omega : ¬ r.tests.length ≤ 10)]; simp
        have d3 : decide ((10 : Int) < (r.tests.length : Int)) = true := decide_eq_true (by omega)
        clear hq
        rcases d0 with ⟨d0, d2⟩ | d0
        all_goals
          go_enter Tryz.func22, Tryz.ntmps22
          go_wp2_with fail
          refine p1.mono ?_
          rintro e W3 ⟨rfl, b3⟩
          have k3 := HE0.out W3 b3
          go_wp2_with fail
          go_returns
          exact ⟨by rw [HX.out]; (try rfl), bstep bA b3⟩
      · have HK : Hid (rulOk r = r.tests.all tstOk) := by rw [Hid, HO.out, hq, decide_eq_true (by omega : r.tests.length ≤ 10)]; rfl
        have d3 : decide ((10 : Int) < (r.tests.length : Int)) = false := decide_eq_false (by omega)
        clear hq
        rcases d0 with ⟨d0, d2⟩ | d0
        all_goals
          go_enter Tryz.func22, Tryz.ntmps22
          go_wp2_with fail
          refine p1.mono ?_
          rintro e W3 ⟨rfl, b3⟩
          have k3 := HE0.out W3 b3
          have bB := bstep bA b3
          have H3 := Lib.hid (H2.out.below bB)
          go_wp2_with fail
          go_loopw [28] (fun i wr => ∃ (k : Nat), i = .int .i64 k ∧ k ≤ r.tests.length ∧ Below W3.heap.size W3 wr ∧ Hid (∀ x ∈ r.tests.take k, tstOk x = true)) (fun i _ => r.tests.length - (intOf i).toNat)
          case atStart => exact ⟨0, rfl, by omega, Below.refl _ _, by simp [Hid]⟩
          case round =>
            obtain ⟨k, rfl, hk, hB, HN⟩ := hrel
            by_cases hlt : k < r.tests.length
            · obtain ⟨b, o, AT, cT, AY, cY, rfl, hbl, g0, g1, g2, g3, g4, g5, hRT, hRY⟩ := H3.out.at hlt
              obtain ⟨hz1, hz2⟩ := hl3 r.tests[k] (List.getElem_mem _)
              have HF : Hid (tstOk r.tests[k] = false → rulOk r = false) := fun h => by rw [HK.out]; exact all_no hlt h
              have HT : Hid (tstOk r.tests[k] = true → ∀ x ∈ r.tests.take (k + 1), tstOk x = true) := all_take hlt HN.out
              have hE := tstOk_eq r.tests[k]
              generalize r.tests[k] = tt at *
              have q0 := (hB.cell (p := ⟨b, o + k * 6, none⟩) hbl).trans g0
              have q1 := (hB.cell (p := ⟨b, o + k * 6 + 1, none⟩) hbl).trans g1
              have q2 := (hB.cell (p := ⟨b, o + k * 6 + 2, none⟩) hbl).trans g2
              have q3 := (hB.cell (p := ⟨b, o + k * 6 + 3, none⟩) hbl).trans g3
              have q4 := (hB.cell (p := ⟨b, o + k * 6 + 4, none⟩) hbl).trans g4
              have q5 := (hB.cell (p := ⟨b, o + k * 6 + 5, none⟩) hbl).trans g5
              have k0 : (0 : Int) ≤ (k : Int) := by omega
              have kl : (k : Int) < (r.tests.length : Int) := by omega
              have hY := hRY.below hB
              have bC : Below wr.heap.size wr (wr.alloc (.cells #[.int .i64 tt.at_, .bool tt.scan, .bool tt.not_, .bool tt.careful, .slice AT tt.tags.length cT, .slice AY tt.barrier.length cY] 79)) := (Below.refl _ _).alloc (Nat.le_refl _) _
              have p5 := tags_any AT cT tt.tags _ (hT.below (bstep bB (bstep hB bC))) ((hRT.below hB).below bC) (by omega)
              have HE : Hid (∀ W5, Below (wr.alloc (.cells #[.int .i64 tt.at_, .bool tt.scan, .bool tt.not_, .bool tt.careful, .slice AT tt.tags.length cT, .slice AY tt.barrier.length cY] 79)).heap.size (wr.alloc (.cells #[.int .i64 tt.at_, .bool tt.scan, .bool tt.not_, .bool tt.careful, .slice AT tt.tags.length cT, .slice AY tt.barrier.length cY] 79)) W5 →
                  W5.cell? ⟨wr.heap.size, 0, none⟩ = some (.int .i64 tt.at_) ∧ W5.cell? ⟨wr.heap.size, 1, none⟩ = some (.bool tt.scan) ∧ W5.cell? ⟨wr.heap.size, 2, none⟩ = some (.bool tt.not_) ∧ W5.cell? ⟨wr.heap.size, 3, none⟩ = some (.bool tt.careful) ∧ W5.cell? ⟨wr.heap.size, 4, none⟩ = some (.slice AT tt.tags.length cT) ∧ W5.cell? ⟨wr.heap.size, 5, none⟩ = some (.slice AY tt.barrier.length cY)) := fun W5 b5 =>
                ⟨(b5.cell (p := ⟨wr.heap.size, 0, none⟩) (by simp)).trans (at3 wr _ _ 0 _ rfl), (b5.cell (p := ⟨wr.heap.size, 1, none⟩) (by simp)).trans (at3 wr _ _ 1 _ rfl), (b5.cell (p := ⟨wr.heap.size, 2, none⟩) (by simp)).trans (at3 wr _ _ 2 _ rfl), (b5.cell (p := ⟨wr.heap.size, 3, none⟩) (by simp)).trans (at3 wr _ _ 3 _ rfl), (b5.cell (p := ⟨wr.heap.size, 4, none⟩) (by simp)).trans (at3 wr _ _ 4 _ rfl), (b5.cell (p := ⟨wr.heap.size, 5, none⟩) (by simp)).trans (at3 wr _ _ 5 _ rfl)⟩
              have HEQ := Lib.hid hE
              clear g0 g1 g2 g3 g4 g5 hRT hRY hE
              by_cases a1 : tt.at_ < -99
              · have HX := Lib.hid (HF.out (by rw [HEQ.out, decide_eq_false (by omega : ¬ -99 ≤ tt.at_)]; rfl))
                go_wp2_with fail
                go_returns
                exact ⟨by rw [HX.out]; (try rfl), bstep bB (bstep hB bC)⟩
              · by_cases a2 : 99 < tt.at_
                · have HX := Lib.hid (HF.out (by rw [HEQ.out, decide_eq_false (by omega : ¬ tt.at_ ≤ 99)]; simp))
                  go_wp2_with fail
                  go_returns
                  exact ⟨by rw [HX.out]; (try rfl), bstep bB (bstep hB bC)⟩
                · have w1 : decide (-99 ≤ tt.at_) = true := decide_eq_true (by omega)
                  have w2 : decide (tt.at_ ≤ 99) = true := decide_eq_true (by omega)
                  have HW := Lib.hid (And.intro w1 w2)
                  clear w1 w2
                  cases hsc : tt.scan with
                  | true =>
                    have HSC := Lib.hid hsc
                    rw [hsc] at p5 HE bC q1
                    clear hsc
                    by_cases hz : tt.at_ = 0
                    · have z1 : (tt.at_ == 0) = true := by rw [hz]; rfl
                      have HZ := Lib.hid hz
                      clear hz
                      have HX := Lib.hid (HF.out (by rw [HEQ.out, HW.out.1, HW.out.2, HSC.out, decide_eq_true HZ.out]; rfl))
                      go_wp2_with fail
                      go_returns
                      exact ⟨by rw [HX.out]; (try rfl), bstep bB (bstep hB bC)⟩
                    · have z1 : (tt.at_ == 0) = false := beq_eq_false_iff_ne.2 hz
                      have HZ := Lib.hid (decide_eq_false hz)
                      cases hq : tagsOk 1 20 tt.tags with
                      | false =>
                        have HQ := Lib.hid hq
                        rw [hq] at p5
                        clear hq
                        have HX := Lib.hid (HF.out (by rw [HEQ.out, HW.out.1, HW.out.2, HSC.out, HZ.out, HQ.out]; simp))
                        go_wp2_with fail
                        refine p5.mono ?_
                        rintro e W5 ⟨rfl, b5⟩
                        obtain ⟨e0, e1, e2, e3, e4, e5⟩ := HE.out W5 b5
                        go_wp2_with fail
                        go_returns
                        exact ⟨by rw [HX.out]; (try rfl), bstep (bstep bB (bstep hB bC)) b5⟩
                      | true =>
                        have HQ := Lib.hid hq
                        rw [hq] at p5
                        clear hq
                        by_cases h20 : 20 < tt.barrier.length
                        · have d20 : decide ((20 : Int) < (tt.barrier.length : Int)) = true := decide_eq_true (by omega)
                          have HX := Lib.hid (HF.out (by rw [HEQ.out, HW.out.1, HW.out.2, HSC.out, HZ.out, HQ.out, decide_eq_false (by omega : ¬ tt.barrier.length ≤ 20)]; simp))
                          go_wp2_with fail
                          refine p5.mono ?_
                          rintro e W5 ⟨rfl, b5⟩
                          obtain ⟨e0, e1, e2, e3, e4, e5⟩ := HE.out W5 b5
                          go_wp2_with fail
                          go_returns
                          exact ⟨by rw [HX.out]; (try rfl), bstep (bstep bB (bstep hB bC)) b5⟩
                        · have d20 : decide ((20 : Int) < (tt.barrier.length : Int)) = false := decide_eq_false (by omega)
                          have HB20 := Lib.hid (decide_eq_true (by omega : tt.barrier.length ≤ 20))
                          cases hN : tt.barrier.all tagOk with
                          | false =>
                            have HN2 := Lib.hid hN
                            have HX := Lib.hid (HF.out (by rw [HEQ.out, HW.out.1, HW.out.2, HSC.out, HZ.out, HQ.out, HB20.out, HN2.out]; simp))
                            go_wp2_with fail
                            refine p5.mono ?_
                            rintro e W5 ⟨rfl, b5⟩
                            obtain ⟨e0, e1, e2, e3, e4, e5⟩ := HE.out W5 b5
                            have p6 := named_any AY cY tt.barrier W5 (hT.below (bstep (bstep bB (bstep hB bC)) b5)) ((hY.below bC).below b5) (by omega)
                            rw [hN] at p6
                            go_wp2_with fail
                            refine p6.mono ?_
                            rintro e W6 ⟨rfl, b6⟩
                            obtain ⟨f0, f1, f2, f3, f4, f5⟩ := HE.out W6 (bstep b5 b6)
                            go_wp2_with fail
                            go_returns
                            exact ⟨by rw [HX.out]; (try rfl), bstep (bstep (bstep bB (bstep hB bC)) b5) b6⟩
                          | true =>
                            have HN2 := Lib.hid hN
                            have HX := Lib.hid (HT.out (by rw [HEQ.out, HW.out.1, HW.out.2, HSC.out, HZ.out, HQ.out, HB20.out, HN2.out]; rfl))
                            go_wp2_with fail
                            refine p5.mono ?_
                            rintro e W5 ⟨rfl, b5⟩
                            obtain ⟨e0, e1, e2, e3, e4, e5⟩ := HE.out W5 b5
                            have p6 := named_any AY cY tt.barrier W5 (hT.below (bstep (bstep bB (bstep hB bC)) b5)) ((hY.below bC).below b5) (by omega)
                            rw [hN] at p6
                            go_wp2_with fail
                            refine p6.mono ?_
                            rintro e W6 ⟨rfl, b6⟩
                            obtain ⟨f0, f1, f2, f3, f4, f5⟩ := HE.out W6 (bstep b5 b6)
                            go_wp2_with fail
                            go_roundw
                            case rel => exact ⟨k + 1, by go_num, by omega, bstep (bstep (bstep hB bC) b5) b6, HX.out⟩
                            case measure => simp [intOf]; omega
                  | false =>
                    have HSC := Lib.hid hsc
                    rw [hsc] at p5 HE bC q1
                    clear hsc
                    cases hq : tagsOk 1 20 tt.tags with
                    | false =>
                      have HQ := Lib.hid hq
                      rw [hq] at p5
                      clear hq
                      have HX := Lib.hid (HF.out (by rw [HEQ.out, HW.out.1, HW.out.2, HSC.out, HQ.out]; simp))
                      go_wp2_with fail
                      refine p5.mono ?_
                      rintro e W5 ⟨rfl, b5⟩
                      obtain ⟨e0, e1, e2, e3, e4, e5⟩ := HE.out W5 b5
                      go_wp2_with fail
                      go_returns
                      exact ⟨by rw [HX.out]; (try rfl), bstep (bstep bB (bstep hB bC)) b5⟩
                    | true =>
                      have HQ := Lib.hid hq
                      rw [hq] at p5
                      clear hq
                      by_cases h20 : 20 < tt.barrier.length
                      · have d20 : decide ((20 : Int) < (tt.barrier.length : Int)) = true := decide_eq_true (by omega)
                        have HX := Lib.hid (HF.out (by rw [HEQ.out, HW.out.1, HW.out.2, HSC.out, HQ.out, decide_eq_false (by omega : ¬ tt.barrier.length ≤ 20)]; simp))
                        go_wp2_with fail
                        refine p5.mono ?_
                        rintro e W5 ⟨rfl, b5⟩
                        obtain ⟨e0, e1, e2, e3, e4, e5⟩ := HE.out W5 b5
                        go_wp2_with fail
                        go_returns
                        exact ⟨by rw [HX.out]; (try rfl), bstep (bstep bB (bstep hB bC)) b5⟩
                      · have d20 : decide ((20 : Int) < (tt.barrier.length : Int)) = false := decide_eq_false (by omega)
                        have HB20 := Lib.hid (decide_eq_true (by omega : tt.barrier.length ≤ 20))
                        cases hN : tt.barrier.all tagOk with
                        | false =>
                          have HN2 := Lib.hid hN
                          have HX := Lib.hid (HF.out (by rw [HEQ.out, HW.out.1, HW.out.2, HSC.out, HQ.out, HB20.out, HN2.out]; simp))
                          go_wp2_with fail
                          refine p5.mono ?_
                          rintro e W5 ⟨rfl, b5⟩
                          obtain ⟨e0, e1, e2, e3, e4, e5⟩ := HE.out W5 b5
                          have p6 := named_any AY cY tt.barrier W5 (hT.below (bstep (bstep bB (bstep hB bC)) b5)) ((hY.below bC).below b5) (by omega)
                          rw [hN] at p6
                          go_wp2_with fail
                          refine p6.mono ?_
                          rintro e W6 ⟨rfl, b6⟩
                          obtain ⟨f0, f1, f2, f3, f4, f5⟩ := HE.out W6 (bstep b5 b6)
                          go_wp2_with fail
                          go_returns
                          exact ⟨by rw [HX.out]; (try rfl), bstep (bstep (bstep bB (bstep hB bC)) b5) b6⟩
                        | true =>
                          have HN2 := Lib.hid hN
                          by_cases h0 : 0 < tt.barrier.length
                          · have d0 : decide ((0 : Int) < (tt.barrier.length : Int)) = true := decide_eq_true (by omega)
                            have HE2 : Hid (tt.barrier.isEmpty = false) := isEmpty_false (List.length_pos_iff.1 h0)
                            have HX := Lib.hid (HF.out (by rw [HEQ.out, HW.out.1, HW.out.2, HSC.out, HE2.out]; simp))
                            go_wp2_with fail
                            refine p5.mono ?_
                            rintro e W5 ⟨rfl, b5⟩
                            obtain ⟨e0, e1, e2, e3, e4, e5⟩ := HE.out W5 b5
                            have p6 := named_any AY cY tt.barrier W5 (hT.below (bstep (bstep bB (bstep hB bC)) b5)) ((hY.below bC).below b5) (by omega)
                            rw [hN] at p6
                            go_wp2_with fail
                            refine p6.mono ?_
                            rintro e W6 ⟨rfl, b6⟩
                            obtain ⟨f0, f1, f2, f3, f4, f5⟩ := HE.out W6 (bstep b5 b6)
                            go_wp2_with fail
                            go_returns
                            exact ⟨by rw [HX.out]; (try rfl), bstep (bstep (bstep bB (bstep hB bC)) b5) b6⟩
                          · have d0 : decide ((0 : Int) < (tt.barrier.length : Int)) = false := decide_eq_false (by omega)
                            have HE2 : Hid (tt.barrier.isEmpty = true) := by rw [Hid, List.isEmpty_iff, ← List.length_eq_zero_iff]; omega
                            have HX := Lib.hid (HT.out (by rw [HEQ.out, HW.out.1, HW.out.2, HSC.out, HQ.out, HB20.out, HN2.out, HE2.out]; rfl))
                            go_wp2_with fail
                            refine p5.mono ?_
                            rintro e W5 ⟨rfl, b5⟩
                            obtain ⟨e0, e1, e2, e3, e4, e5⟩ := HE.out W5 b5
                            have p6 := named_any AY cY tt.barrier W5 (hT.below (bstep (bstep bB (bstep hB bC)) b5)) ((hY.below bC).below b5) (by omega)
                            rw [hN] at p6
                            go_wp2_with fail
                            refine p6.mono ?_
                            rintro e W6 ⟨rfl, b6⟩
                            obtain ⟨f0, f1, f2, f3, f4, f5⟩ := HE.out W6 (bstep b5 b6)
                            go_wp2_with fail
                            go_roundw
                            case rel => exact ⟨k + 1, by go_num, by omega, bstep (bstep (bstep hB bC) b5) b6, HX.out⟩
                            case measure => simp [intOf]; omega
            · obtain rfl : k = r.tests.length := by omega
              have HX : Hid (rulOk r = true) := by rw [Hid, HK.out, List.all_eq_true]; have := HN.out; rwa [List.take_length] at this
              go_wp2_with fail
              go_returns
              exact ⟨by rw [HX.out]; (try rfl), bstep bB hB⟩
  · have HX : Hid (rulOk r = false) := by
      unfold Hid rulOk
      rw [show (decide (r.op = 1) || decide (r.op = 2)) = false by simpa using ho]; rfl
    have d0 : (r.op != 1) = true := by simp only [bne_iff_ne]; exact fun h => ho (Or.inl h)
    have d2 : (r.op != 2) = true := by simp only [bne_iff_ne]; exact fun h => ho (Or.inr h)
    clear ho p1
    go_enter Tryz.func22, Tryz.ntmps22
    go_wp2_with fail
    go_returns
    exact ⟨by rw [HX.out]; (try rfl), bA⟩
end Go.Proofs.YtplipnchkkhdaaaGreatDoor
