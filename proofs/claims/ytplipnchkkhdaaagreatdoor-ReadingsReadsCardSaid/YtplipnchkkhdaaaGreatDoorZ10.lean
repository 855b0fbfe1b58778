/- Walks: SameRule, SameRules of the reference of layer 33. -/
import Derived.Test.YtplipnchkkhdaaaGreatDoorZ07
import Derived.BigRegion
namespace Go.Proofs.YtplipnchkkhdaaaGreatDoor
open Go.RowKit
set_option linter.unusedVariables false


theorem cell2a (w : World) (A B : Array Value) (T U : TypeId) (i : Nat) (v : Value) (h : A[i]? = some v) : ((w.alloc (.cells A T)).alloc (.cells B U)).drew.cell? ⟨w.heap.size, i, none⟩ = some v := by
  have h1 := at3 w A T i v h
  have h2 := ((Below.refl _ (w.alloc (.cells A T))).alloc (Nat.le_refl _) (.cells B U)).cell (p := ⟨w.heap.size, i, none⟩) (by simp)
  exact h2.trans h1
theorem cell2b (w : World) (A B : Array Value) (T U : TypeId) (i : Nat) (v : Value) (h : B[i]? = some v) : ((w.alloc (.cells A T)).alloc (.cells B U)).drew.cell? ⟨w.heap.size + 1, i, none⟩ = some v := by
  have h1 := at3 (w.alloc (.cells A T)) B U i v h
  rw [World.size_alloc] at h1
  exact h1
set_option maxHeartbeats 8000000 in
set_option maxRecDepth 100000 in
theorem srule_any (o1 o2 : Int) (u1 u2 : Bool) (g1 g2 : List Bs) (l m : List Tst) (A1 A2 B1 B2 : Option Addr) (c1 c2 d1 d2 : Nat) (w : World)
    (hg1 : RowAt w A1 (g1.map S)) (hg2 : RowAt w B1 (g2.map S)) (hA : TstsV w (.slice A2 l.length c2) l) (hB : TstsV w (.slice B2 m.length d2) m) (z1 : g1.length ≤ 1000000) (z2 : g2.length ≤ 1000000) (z3 : l.length ≤ 1000000) (z4 : m.length ≤ 1000000)
    (z5 : ∀ t ∈ l, t.tags.length ≤ 1000000 ∧ t.barrier.length ≤ 1000000) (z6 : ∀ t ∈ m, t.tags.length ≤ 1000000 ∧ t.barrier.length ≤ 1000000) :
    Calls Tryz.prog 65 #[.agg #[.int .i64 o1, .slice A1 g1.length c1, .slice A2 l.length c2, .bool u1], .agg #[.int .i64 o2, .slice B1 g2.length d1, .slice B2 m.length d2, .bool u2]] w
      fun e w' => e = .returned (.bool (decide ((⟨o1, g1, l, u1⟩ : Rul) = ⟨o2, g2, m, u2⟩))) ∧ Below w.heap.size w w' := by
  obtain ⟨q, hq⟩ : ∃ q, decide ((⟨o1, g1, l, u1⟩ : Rul) = ⟨o2, g2, m, u2⟩) = q := ⟨_, rfl⟩
  rw [hq]
  have HQ : Hid (decide (o1 = o2 ∧ g1 = g2 ∧ l = m ∧ u1 = u2) = q) := by rw [Hid, ← hq]; simp
  clear hq
  have HX := Lib.hid hA
  have HY := Lib.hid hB
  clear hA hB
  obtain ⟨W0, hW0⟩ : ∃ W0, W0 = (w.alloc (.cells #[.int .i64 o1, .slice A1 g1.length c1, .slice A2 l.length c2, .bool u1] 42)).alloc (.cells #[.int .i64 o2, .slice B1 g2.length d1, .slice B2 m.length d2, .bool u2] 42) := ⟨_, rfl⟩
  have b0 : Below w.heap.size w W0 := by rw [hW0]; exact ((Below.refl _ _).alloc (Nat.le_refl _) _).alloc (by simp) _
  have hz0 : W0.heap.size = w.heap.size + 2 := by rw [hW0]; simp
  have hr1 : W0.heap[w.heap.size]? = some (.cells #[.int .i64 o1, .slice A1 g1.length c1, .slice A2 l.length c2, .bool u1] 42 (0, 0)) := by
    rw [hW0]
    exact (((Below.refl _ _).alloc (Nat.le_refl _) _).block w.heap.size (by simp)).trans (heap_alloc_new w _)
  have hr2 : W0.heap[w.heap.size + 1]? = some (.cells #[.int .i64 o2, .slice B1 g2.length d1, .slice B2 m.length d2, .bool u2] 42 (0, 0)) := by
    rw [hW0]
    have := heap_alloc_new (w.alloc (.cells #[.int .i64 o1, .slice A1 g1.length c1, .slice A2 l.length c2, .bool u1] 42)) (.cells #[.int .i64 o2, .slice B1 g2.length d1, .slice B2 m.length d2, .bool u2] 42)
    simpa using this
  have HR : Hid (∀ W3, Below W0.heap.size W0 W3 → W3.heap[w.heap.size]? = some (.cells #[.int .i64 o1, .slice A1 g1.length c1, .slice A2 l.length c2, .bool u1] 42 (0, 0)) ∧ W3.heap[w.heap.size + 1]? = some (.cells #[.int .i64 o2, .slice B1 g2.length d1, .slice B2 m.length d2, .bool u2] 42 (0, 0))) := fun W3 b3 =>
    ⟨(b3.block _ (by omega)).trans hr1, (b3.block _ (by omega)).trans hr2⟩
  have p1 := same_any A1 B1 c1 d1 g1 g2 W0 (hg1.below b0) (hg2.below b0) (by omega) (by omega)
  have HW0 := Lib.hid hW0
  have Z5 := Lib.hid z5
  have Z6 := Lib.hid z6
  clear z5 z6
  clear hr1 hr2 hz0 hg1 hg2 hW0
  by_cases ho : o1 = o2
  · subst ho
    by_cases hu : u1 = u2
    · subst hu
      cases hg : decide (g1 = g2) with
      | false =>
        have HX2 : Hid (q = false) := by rw [Hid, ← HQ.out, decide_eq_false_iff_not]; exact fun e => (by simpa using hg : ¬ g1 = g2) e.2.1
        rw [hg] at p1
        clear hg
        go_enter Tryz.func65, Tryz.ntmps65
        go_wp2_with fail
        rw [← HW0.out]
        refine p1.mono ?_
        rintro e W3 ⟨rfl, b3⟩
        go_wp2_with fail
        go_returns
        exact ⟨by rw [HX2.out]; (try rfl), bstep b0 b3⟩
      | true =>
        have HG := Lib.hid (by simpa using hg : g1 = g2)
        rw [hg] at p1
        clear hg
        by_cases hn : l.length = m.length
        · have hn' : ((l.length : Int) != (m.length : Int)) = false := by simp; omega
          have HN := Lib.hid hn
          have hm1 : l.length ≤ m.length := by omega
          have hm2 : m.length ≤ l.length := by omega
          clear hn
          go_enter Tryz.func65, Tryz.ntmps65
          go_wp2_with fail
          rw [← HW0.out]
          refine p1.mono ?_
          rintro e W3 ⟨rfl, b3⟩
          obtain ⟨kk1, kk2⟩ := HR.out W3 b3
          have e1 := cell_of_row W3 w.heap.size 2 _ _ (0, 0) kk1
          have e2 := cell_of_row W3 (w.heap.size + 1) 2 _ _ (0, 0) kk2
          simp at e1 e2
          have hz3 : w.heap.size + 1 < W3.heap.size := lt_of_block kk2
          clear kk1 kk2
          go_wp2_with fail
          clear e1 e2
          have bW3 := bstep b0 b3
          go_loopw [5] (fun i wr => ∃ (k : Nat), i = .int .i64 k ∧ k ≤ l.length ∧ Below W3.heap.size W3 wr ∧ Hid (l.take k = m.take k)) (fun i _ => l.length - (intOf i).toNat)
          case atStart => exact ⟨0, rfl, by omega, Below.refl _ _, by simp [Hid]⟩
          case round =>
            obtain ⟨k, rfl, hk, hB, H⟩ := hrel
            obtain ⟨kk1, kk2⟩ := HR.out wr (bstep b3 hB)
            have e1 := cell_of_row wr w.heap.size 2 _ _ (0, 0) kk1
            have e2 := cell_of_row wr (w.heap.size + 1) 2 _ _ (0, 0) kk2
            simp at e1 e2
            have hzr : w.heap.size + 1 < wr.heap.size := lt_of_block kk2
            clear kk1 kk2
            by_cases hlt : k < l.length
            · have hlt2 : k < m.length := by omega
              obtain ⟨b, o, AT, cT, AY, cY, rfl, hbl, f0, f1, f2, f3, f4, f5, hRT, hRY⟩ := HX.out.at hlt
              obtain ⟨b', o', BT, dT, BY, dY, rfl, hbl', j0, j1, j2, j3, j4, j5, hST, hSY⟩ := HY.out.at hlt2
              obtain ⟨y1, y2⟩ := Z5.out l[k] (List.getElem_mem _)
              obtain ⟨y3, y4⟩ := Z6.out m[k] (List.getElem_mem _)
              have HT := Lib.hid (take_both hlt hlt2 H.out)
              obtain ⟨t, ht⟩ : ∃ t, l[k] = t := ⟨_, rfl⟩
              obtain ⟨t', ht'⟩ : ∃ t, m[k] = t := ⟨_, rfl⟩
              rw [ht] at f0 f1 f2 f3 f4 f5 hRT hRY y1 y2 HT
              rw [ht'] at j0 j1 j2 j3 j4 j5 hST hSY y3 y4 HT
              clear ht ht'
              obtain ⟨nA, s1, xa, ya, ga, ra⟩ := t
              obtain ⟨nB, s2, xb, yb, gb, rb⟩ := t'
              dsimp only at *
              have HF : Hid (¬ (⟨nA, s1, xa, ya, ga, ra⟩ : Tst) = ⟨nB, s2, xb, yb, gb, rb⟩ → q = false) := fun h => by rw [← HQ.out, decide_eq_false_iff_not]; exact fun e => HT.out.2 h e.2.2.1
              have bW := bstep bW3 hB
              have i0 := (bW.cell (p := ⟨b, o + k * 6, none⟩) hbl).trans f0
              have i1 := (bW.cell (p := ⟨b, o + k * 6 + 1, none⟩) hbl).trans f1
              have i2 := (bW.cell (p := ⟨b, o + k * 6 + 2, none⟩) hbl).trans f2
              have i3 := (bW.cell (p := ⟨b, o + k * 6 + 3, none⟩) hbl).trans f3
              have i4 := (bW.cell (p := ⟨b, o + k * 6 + 4, none⟩) hbl).trans f4
              have i5 := (bW.cell (p := ⟨b, o + k * 6 + 5, none⟩) hbl).trans f5
              have n0 := (bW.cell (p := ⟨b', o' + k * 6, none⟩) hbl').trans j0
              have n1 := (bW.cell (p := ⟨b', o' + k * 6 + 1, none⟩) hbl').trans j1
              have n2 := (bW.cell (p := ⟨b', o' + k * 6 + 2, none⟩) hbl').trans j2
              have n3 := (bW.cell (p := ⟨b', o' + k * 6 + 3, none⟩) hbl').trans j3
              have n4 := (bW.cell (p := ⟨b', o' + k * 6 + 4, none⟩) hbl').trans j4
              have n5 := (bW.cell (p := ⟨b', o' + k * 6 + 5, none⟩) hbl').trans j5
              clear f0 f1 f2 f3 f4 f5 j0 j1 j2 j3 j4 j5
              have q1 := fun (Wx : World) (bx : Below wr.heap.size wr Wx) => same_any AT BT cT dT ga gb Wx (hRT.below (bstep bW bx)) (hST.below (bstep bW bx)) (by omega) (by omega)
              have q2 := fun (Wx : World) (bx : Below wr.heap.size wr Wx) => same_any AY BY cY dY ra rb Wx (hRY.below (bstep bW bx)) (hSY.below (bstep bW bx)) (by omega) (by omega)
              clear hRT hST hRY hSY
              obtain ⟨qa, hqa⟩ : ∃ q, decide (ga = gb) = q := ⟨_, rfl⟩
              obtain ⟨qb, hqb⟩ : ∃ q, decide (ra = rb) = q := ⟨_, rfl⟩
              rw [hqa] at q1
              rw [hqb] at q2
              have HQA := Lib.hid hqa
              have HQB := Lib.hid hqb
              clear hqa hqb
              have k0 : (0 : Int) ≤ (k : Int) := by omega
              have kl : (k : Int) < (l.length : Int) := by omega
              have kl2 : (k : Int) < (m.length : Int) := by omega
              have hbr : b < wr.heap.size := by have := bW.size; omega
              have hbr' : b' < wr.heap.size := by have := bW.size; omega
              have ne1 : ¬ w.heap.size = wr.heap.size := by omega
              have ne2 : ¬ w.heap.size + 1 = wr.heap.size := by omega
              have ne3 : ¬ w.heap.size = wr.heap.size + 1 := by omega
              have ne4 : ¬ b = wr.heap.size := by omega
              have ne5 : ¬ b' = wr.heap.size := by omega
              have ne6 : ¬ b = wr.heap.size + 1 := by omega
              have ne7 : ¬ b' = wr.heap.size + 1 := by omega
              have lt1 : w.heap.size < wr.heap.size := by omega
              go_wp2_with fail
              go_region
              all_goals
                clear i0 i1 i2 i3 i4 i5 n0 n1 n2 n3 n4 n5 e1 e2 ne1 ne2 ne3 ne4 ne5 ne6 ne7 lt1 hbr hbr' hzr hz3 kl2 y1 y2 y3 y4 z1 z2 z4 hbl hbl'
                go_wp2_with fail
                · have a1 : nA = nB := by assumption
                  have a2 : s1 = s2 := by assumption
                  have a3 : xa = xb := by assumption
                  have a4 : ya = yb := by assumption
                  have HA4 := Lib.hid (And.intro a1 (And.intro a2 (And.intro a3 a4)))
                  refine (q1 _ (((Below.refl _ _).alloc (Nat.le_refl _) _).alloc (by simp) _).drew).mono ?_
                  rintro e W4 ⟨rfl, b4⟩
                  have b5 := bstep (((Below.refl wr.heap.size wr).alloc (Nat.le_refl _) _).alloc (by simp) _).drew b4
                  have w1 := (b4.cell (p := ⟨wr.heap.size, 5, none⟩) (by simp; omega)).trans (cell2a wr _ _ _ _ 5 _ rfl)
                  have w2 := (b4.cell (p := ⟨wr.heap.size + 1, 5, none⟩) (by simp)).trans (cell2b wr _ _ _ _ 5 _ rfl)
                  clear a1 a2 a3 a4 q1 b4 k0
                  cases qa with
                  | false =>
                    have HX2 := Lib.hid (HF.out (fun e => (by simpa using HQA.out : ¬ ga = gb) (by cases e; rfl)))
                    clear w1 w2 q2
                    go_wp2_with fail
                    go_returns
                    exact ⟨by rw [HX2.out]; (try rfl), bstep bW b5⟩
                  | true =>
                    go_wp2_with fail
                    refine (q2 _ b5).mono ?_
                    rintro e W5 ⟨rfl, b6⟩
                    clear w1 w2 q2
                    cases qb with
                    | false =>
                      have HX2 := Lib.hid (HF.out (fun e => (by simpa using HQB.out : ¬ ra = rb) (by cases e; rfl)))
                      go_wp2_with fail
                      go_returns
                      exact ⟨by rw [HX2.out]; (try rfl), bstep bW (bstep b5 b6)⟩
                    | true =>
                      have HX2 := Lib.hid (HT.out.1 (by rw [HA4.out.1, HA4.out.2.1, HA4.out.2.2.1, HA4.out.2.2.2, (by simpa using HQA.out : ga = gb), (by simpa using HQB.out : ra = rb)]))
                      go_wp2_with fail
                      go_roundw
                      case rel => exact ⟨k + 1, by go_num, by omega, bstep hB (bstep b5 b6), HX2.out⟩
                      case measure => simp [intOf]; omega
                all_goals
                  have HX2 := Lib.hid (HF.out (fun e => by
                    simp only [Tst.mk.injEq] at e
                    obtain ⟨e1, e2, e3, e4, _, _⟩ := e
                    first | exact absurd e1 ‹¬ nA = nB› | exact absurd e2 ‹¬ s1 = s2› | exact absurd e3 ‹¬ xa = xb› | exact absurd e4 ‹¬ ya = yb›))
                  go_returns
                  exact ⟨by rw [HX2.out]; (try rfl), bstep bW (((Below.refl _ _).alloc (Nat.le_refl _) _).alloc (by simp) _).drew⟩
            · obtain rfl : k = l.length := by omega
              have HX2 : Hid (q = true) := by
                have h1 := H.out
                rw [List.take_length, HN.out, List.take_length] at h1
                rw [Hid, ← HQ.out, decide_eq_true_iff]; exact ⟨trivial, HG.out, h1, trivial⟩
              go_wp2_with fail
              go_returns
              exact ⟨by rw [HX2.out]; (try rfl), bstep bW3 hB⟩
        · have hn' : ((l.length : Int) != (m.length : Int)) = true := by simp; omega
          have HX2 : Hid (q = false) := by rw [Hid, ← HQ.out, decide_eq_false_iff_not]; exact fun e => hn (by rw [e.2.2.1])
          clear hn
          go_enter Tryz.func65, Tryz.ntmps65
          go_wp2_with fail
          rw [← HW0.out]
          refine p1.mono ?_
          rintro e W3 ⟨rfl, b3⟩
          obtain ⟨kk1, kk2⟩ := HR.out W3 b3
          have e1 := cell_of_row W3 w.heap.size 2 _ _ (0, 0) kk1
          have e2 := cell_of_row W3 (w.heap.size + 1) 2 _ _ (0, 0) kk2
          simp at e1 e2
          clear kk1 kk2
          go_wp2_with fail
          go_returns
          exact ⟨by rw [HX2.out]; (try rfl), bstep b0 b3⟩
    · have HX2 : Hid (q = false) := by rw [Hid, ← HQ.out, decide_eq_false_iff_not]; exact fun e => hu e.2.2.2
      have hu2 : (u1 = true ∧ u2 = false) ∨ (u1 = false ∧ u2 = true) := by cases u1 <;> cases u2 <;> simp_all
      clear hu
      rcases hu2 with ⟨rfl, rfl⟩ | ⟨rfl, rfl⟩
      all_goals
        go_enter Tryz.func65, Tryz.ntmps65
        go_wp2_with fail
        go_returns
        exact ⟨by rw [HX2.out]; (try rfl), by rw [← HW0.out]; exact b0⟩
  · have ho' : (o1 != o2) = true := by simpa using ho
    have HX2 : Hid (q = false) := by rw [Hid, ← HQ.out, decide_eq_false_iff_not]; exact fun e => ho e.1
    clear ho
    go_enter Tryz.func65, Tryz.ntmps65
    go_wp2_with fail
    go_returns
    exact ⟨by rw [HX2.out]; (try rfl), by rw [← HW0.out]; exact b0⟩
end Go.Proofs.YtplipnchkkhdaaaGreatDoor
