/- Walk: SameRules of the reference of layer 33. -/
import Derived.Test.YtplipnchkkhdaaaGreatDoorZ10
import Derived.Test.YtplipnchkkhdaaaGreatDoorZ11
namespace Go.Proofs.YtplipnchkkhdaaaGreatDoor
open Go.RowKit
set_option linter.unusedVariables false

theorem srule_of (r s : Rul) (A1 A2 B1 B2 : Option Addr) (c1 c2 d1 d2 : Nat) (w : World)
    (hx : RulV w (.slice A1 r.target.length c1, .slice A2 r.tests.length c2) r) (hy : RulV w (.slice B1 s.target.length d1, .slice B2 s.tests.length d2) s) (hr : SizedR r) (hs : SizedR s) :
    Calls Tryz.prog 65 #[.agg #[.int .i64 r.op, .slice A1 r.target.length c1, .slice A2 r.tests.length c2, .bool r.uns], .agg #[.int .i64 s.op, .slice B1 s.target.length d1, .slice B2 s.tests.length d2, .bool s.uns]] w
      fun e w' => e = .returned (.bool (decide (r = s))) ∧ Below w.heap.size w w' := by
  obtain ⟨⟨A', c', e', hc', h1⟩, h2⟩ := hx
  cases e'
  obtain ⟨⟨B', d', f', hd', h3⟩, h4⟩ := hy
  cases f'
  exact srule_any r.op s.op r.uns s.uns r.target s.target r.tests s.tests A1 A2 B1 B2 c1 c2 d1 d2 w h1 h3 h2 h4 hr.1 hs.1 hr.2.1 hs.2.1 hr.2.2 hs.2.2
set_option maxHeartbeats 4000000 in
set_option maxRecDepth 100000 in
theorem rsamer_any (A B : Option Addr) (c d : Nat) (l m : List Rul) (w : World) (hA : RulsV w (.slice A l.length c) l) (hB : RulsV w (.slice B m.length d) m) (hl : SizedRs l) (hm : SizedRs m) :
    Calls Tryz.prog 27 #[.slice A l.length c, .slice B m.length d] w fun e w' => e = .returned (.bool (decide (l = m))) ∧ Below w.heap.size w w' := by
  obtain ⟨q, hq⟩ : ∃ q, decide (l = m) = q := ⟨_, rfl⟩
  rw [hq]
  have HQ := Lib.hid hq
  clear hq
  have HX := Lib.hid hA
  have HY := Lib.hid hB
  clear hA hB
  obtain ⟨hl1, hl2⟩ := hl
  obtain ⟨hq1, hq2⟩ := hm
  have HL2 := Lib.hid hl2
  have HQ2 := Lib.hid hq2
  clear hl2 hq2
  by_cases hn : l.length = m.length
  · have hn' : ((l.length : Int) != (m.length : Int)) = false := by simp; omega
    have HN := Lib.hid hn
    have hm1 : l.length ≤ m.length := by omega
    have hm2 : m.length ≤ l.length := by omega
    clear hn
    go_enter Tryz.func27, Tryz.ntmps27
    go_wp2_with fail
    go_loopw [5] (fun i wr => ∃ (k : Nat), i = .int .i64 k ∧ k ≤ l.length ∧ Below w.heap.size w wr ∧ Hid (l.take k = m.take k)) (fun i _ => l.length - (intOf i).toNat)
    case atStart => exact ⟨0, rfl, by omega, Below.refl _ _, by simp [Hid]⟩
    case round =>
      obtain ⟨k, rfl, hk, hB, H⟩ := hrel
      by_cases hlt : k < l.length
      · have hlt2 : k < m.length := by omega
        obtain ⟨b, o, A1, c1, A2, c2, rfl, hbl, f0, f1, f2, f3, hx⟩ := HX.out.at hlt
        obtain ⟨b', o', B1, d1, B2, d2, rfl, hbl', j0, j1, j2, j3, hy⟩ := HY.out.at hlt2
        have hz1 := HL2.out l[k] (List.getElem_mem _)
        have hz2 := HQ2.out m[k] (List.getElem_mem _)
        have HT := Lib.hid (take_both hlt hlt2 H.out)
        generalize l[k] = u at *
        generalize m[k] = v at *
        have i0 := (hB.cell (p := ⟨b, o + k * 4, none⟩) hbl).trans f0
        have i1 := (hB.cell (p := ⟨b, o + k * 4 + 1, none⟩) hbl).trans f1
        have i2 := (hB.cell (p := ⟨b, o + k * 4 + 2, none⟩) hbl).trans f2
        have i3 := (hB.cell (p := ⟨b, o + k * 4 + 3, none⟩) hbl).trans f3
        have n0 := (hB.cell (p := ⟨b', o' + k * 4, none⟩) hbl').trans j0
        have n1 := (hB.cell (p := ⟨b', o' + k * 4 + 1, none⟩) hbl').trans j1
        have n2 := (hB.cell (p := ⟨b', o' + k * 4 + 2, none⟩) hbl').trans j2
        have n3 := (hB.cell (p := ⟨b', o' + k * 4 + 3, none⟩) hbl').trans j3
        have k0 : (0 : Int) ≤ (k : Int) := by omega
        have kl : (k : Int) < (l.length : Int) := by omega
        have kl2 : (k : Int) < (m.length : Int) := by omega
        have p1 := fun (Wx : World) (bx : Below wr.heap.size wr Wx) => srule_of u v A1 A2 B1 B2 c1 c2 d1 d2 Wx (hx.below (bstep hB bx)) (hy.below (bstep hB bx)) hz1 hz2
        clear f0 f1 f2 f3 j0 j1 j2 j3 hx hy hz1 hz2
        cases hd : decide (u = v) with
        | true =>
          have HT2 := Lib.hid (HT.out.1 (by simpa using hd))
          rw [hd] at p1
          clear hd HT
          go_wp2_with fail
          go_still_tail 8, (by kernel_rfl)
          change wpList _ _ _ _ _ wr.drew
          go_wp2_with fail
          refine (p1 _ ((Below.refl _ _).drew)).mono ?_
          rintro e W3 ⟨rfl, b3⟩
          have b4 := bstep ((Below.refl _ wr).drew) b3
          go_wp2_with fail
          go_roundw
          case rel => exact ⟨k + 1, by go_num, by omega, bstep hB b4, HT2.out⟩
          case measure => simp [intOf]; omega
        | false =>
          have HT2 := Lib.hid (HT.out.2 (by simpa using hd))
          have HX2 : Hid (q = false) := by rw [Hid, ← HQ.out, decide_eq_false_iff_not]; exact fun e => HT2.out e
          rw [hd] at p1
          clear hd HT
          go_wp2_with fail
          go_still_tail 8, (by kernel_rfl)
          change wpList _ _ _ _ _ wr.drew
          go_wp2_with fail
          refine (p1 _ ((Below.refl _ _).drew)).mono ?_
          rintro e W3 ⟨rfl, b3⟩
          have b4 := bstep ((Below.refl _ wr).drew) b3
          go_wp2_with fail
          go_returns
          exact ⟨by rw [HX2.out]; (try rfl), bstep hB b4⟩
      · obtain rfl : k = l.length := by omega
        have HX2 : Hid (q = true) := by
          have h1 := H.out
          rw [List.take_length, HN.out, List.take_length] at h1
          rw [Hid, ← HQ.out, h1]; simp
        go_wp2_with fail
        go_returns
        exact ⟨by rw [HX2.out]; (try rfl), hB⟩
  · have hn' : ((l.length : Int) != (m.length : Int)) = true := by simp; omega
    have HX2 : Hid (q = false) := by
      rw [Hid, ← HQ.out, decide_eq_false_iff_not]; exact fun e => hn (by rw [e])
    clear hn
    go_enter Tryz.func27, Tryz.ntmps27
    go_wp2_with fail
    go_returns
    exact ⟨by rw [HX2.out]; (try rfl), Below.refl _ _⟩

/- Walks of the law's own makers of layer 33: cohort, cohorts, rules. -/
open Go.RowKit
set_option linter.unusedVariables false

theorem AllV.below {w w' : World} {xs : List Value} {l : List (List Bs)} (h : AllV (StrsV w) xs l) (hb : Below w.heap.size w w') : AllV (StrsV w') xs l := h.mono fun _ _ h => h.below hb
set_option maxHeartbeats 4000000 in
set_option maxRecDepth 100000 in
theorem cohort_any (F : ByteArray) (rs : List (List Bs)) (A : Option Addr) (c : Nat) (w : World) (hV : ReadsV w (.slice A rs.length c) rs) (hl : rs.length ≤ 1000) (h3 : ∀ r ∈ rs, r.length ≤ 1000000) :
    Calls Tryz.prog 12 #[.string F, .slice A rs.length c] w fun e w' => ∃ x, e = .returned (.agg #[.string F, x]) ∧ ReadsV w' x rs ∧ Below w.heap.size w w' := by
  obtain ⟨vs, ⟨A', c', e', hcc, hrow⟩, hall⟩ := hV
  cases e'
  have hvl := hall.length
  have HALL := Lib.hid hall
  have HROW := Lib.hid hrow
  have HVL := Lib.hid hvl
  clear hall hrow hvl
  obtain ⟨ic, ci, cz0, cz1, cz2⟩ := info_parts reaInfo
  obtain ⟨W0, hW0⟩ : ∃ W0, W0 = (w.alloc (.cells #[.string ⟨#[]⟩, .slice none 0 0] 29)).alloc (.cells #[.string F, .slice none 0 0] 29) := ⟨_, rfl⟩
  have b0 : Below w.heap.size w W0 := by rw [hW0]; exact ((Below.refl _ _).alloc (Nat.le_refl _) _).alloc (by simp) _
  have hz0 : W0.heap.size = w.heap.size + 2 := by rw [hW0]; simp
  have hr1 : W0.heap[w.heap.size]? = some (.cells #[.string ⟨#[]⟩, .slice none 0 0] 29 (0, 0)) := by
    rw [hW0]
    exact (((Below.refl _ _).alloc (Nat.le_refl _) _).block w.heap.size (by simp)).trans (heap_alloc_new w _)
  have hr2 : W0.heap[w.heap.size + 1]? = some (.cells #[.string F, .slice none 0 0] 29 (0, 0)) := by
    rw [hW0]
    have := heap_alloc_new (w.alloc (.cells #[.string ⟨#[]⟩, .slice none 0 0] 29)) (.cells #[.string F, .slice none 0 0] 29)
    simpa using this
  have HR1 := Lib.hid hr1
  have HR2 := Lib.hid hr2
  have HZ0 := Lib.hid hz0
  clear hr1 hr2 hz0
  go_enter Tryz.func12, Tryz.ntmps12
  go_wp2_with fail
  rw [← hW0]
  clear hW0
  go_loopw [6] (fun i wr => ∃ (k : Nat) (x : Value), i = .int .i64 k ∧ k ≤ rs.length ∧ Below w.heap.size w wr ∧ w.heap.size + 2 ≤ wr.heap.size ∧ Hid (wr.heap[w.heap.size]? = some (.cells #[.string ⟨#[]⟩, .slice none 0 0] 29 (0, 0))) ∧
    Hid (wr.heap[w.heap.size + 1]? = some (.cells #[.string F, x] 29 (0, 0))) ∧ Hid (wr.ownsRow (w.heap.size + 2) 50 1 x k (vs.take k))) (fun i _ => rs.length - (intOf i).toNat)
  case atStart => exact ⟨0, _, rfl, by omega, b0, by rw [HZ0.out]; omega, HR1.out, HR2.out, World.ownsRow_nil _ _ _ _⟩
  case round =>
    obtain ⟨k, x, rfl, hk, hB, hsz, H1, H2, H3⟩ := hrel
    obtain ⟨Ax, cx, rfl, _, _⟩ := own_sl H3.out
    by_cases hlt : k < rs.length
    · have hltv : k < vs.length := by have := HVL.out; omega
      obtain ⟨b, o, rfl, hbl, hcell⟩ := HROW.out (by intro e; rw [e] at hltv; simp at hltv)
      have hv := hcell k _ (List.getElem?_eq_getElem hltv)
      have HT : Hid (vs.take (k + 1) = vs.take k ++ [vs[k]]) := List.take_succ_eq_append_getElem hltv
      obtain ⟨A1, c1, e1, _⟩ := HALL.out.get k hltv hlt
      rw [e1] at hv HT
      generalize rs[k].length = n1 at *
      clear hcell e1
      have hvk : wr.cell? ⟨b, o + k, none⟩ = some (.slice A1 n1 c1) := (hB.cell (p := ⟨b, o + k, none⟩) hbl).trans hv
      have hcx := cell_of_row wr (w.heap.size + 1) 1 _ _ (0, 0) H2.out
      have hfx := fzB H2.out 1
      simp at hcx
      have k0 : (0 : Int) ≤ (k : Int) := by omega
      have kl : (k : Int) < (rs.length : Int) := by omega
      have hbw : b < wr.heap.size := by omega
      have hlt1 : w.heap.size + 1 < wr.heap.size := by omega
      have ne1 : ¬ w.heap.size + 1 = wr.heap.size := by omega
      have ne2 : ¬ b = wr.heap.size := by omega
      go_wp2_with fail
      have bT : Below wr.heap.size wr ((wr.alloc (.cells #[.slice A1 n1 c1] 50)).drew) := ((Below.refl _ wr).alloc (Nat.le_refl _) _).drew
      have hown5 : ((wr.alloc (.cells #[.slice A1 n1 c1] 50)).drew).ownsRow (w.heap.size + 2) 50 1 (.slice Ax k cx) k (vs.take k) := own_chg H3.out (Chg.of_new (X := fun _ => False) bT) (fun _ _ e => e)
      have hnews : ∀ j u, (#[Value.slice A1 n1 c1]).toList[j]? = some u → ((wr.alloc (.cells #[.slice A1 n1 c1] 50)).drew).cell? ((⟨wr.heap.size, 0, none⟩ : Addr).add j) = some u := World.news_of_block (heap_alloc_new wr (.cells #[.slice A1 n1 c1] 50))
      have h63 : k + 1 ≤ maxLen := by unfold maxLen; omega
      have hby : (k + 1) * 24 ≤ 140737488355328 := by omega
      have hbase : w.heap.size + 2 ≤ ((wr.alloc (.cells #[.slice A1 n1 c1] 50)).drew).heap.size := by have := bT.size; omega
      have KK : Hid (∀ w5, ((wr.alloc (.cells #[.slice A1 n1 c1] 50)).drew).grownBy w5 (Value.slice Ax k cx).ownBlock → w5.cell? ⟨w.heap.size + 1, 1, none⟩ = some (.slice Ax k cx) ∧ w5.cell? ⟨b, o + k, none⟩ = some (.slice A1 n1 c1) ∧ w5.frozen? ⟨w.heap.size + 1, 1, none⟩ = false) := by
        intro w5 hg
        have hne : ∀ q, q < w.heap.size + 2 → (Value.slice Ax k cx).ownBlock ≠ some q := fun q hq e => by have := (hown5.lt q e).1; omega
        have e1 : w5.heap[w.heap.size + 1]? = wr.heap[w.heap.size + 1]? := (hg.block (w.heap.size + 1) (by have := bT.size; omega) (fun e => hne _ (by omega) e.symm)).trans (bT.block _ (by omega))
        have e2 : w5.heap[b]? = wr.heap[b]? := (hg.block b (by have := bT.size; omega) (fun e => hne _ (by omega) e.symm)).trans (bT.block _ (by omega))
        exact ⟨(cell_same e1).trans hcx, (cell_same e2).trans hvk, frz e1 _ hfx⟩
      clear hv
      go_region_law
        ((refine step_append_lies _ (by rfl) (.tmp 16) (.tmp 22) 27 (by rfl) (w.heap.size + 2) 50 ic _ 1 24 Tryz.underlying27 ci cz0 cz1 cz2 (by rfl) (by decide) _ k (vs.take k) (by rfl) hown5 ⟨wr.heap.size, 0, none⟩ 1 1 [.slice A1 n1 c1] (by rfl) rfl hnews (by simp [Value.oneCell']) (by decide) h63 hby hbase (wr.heap.size + 1) (by simp) ?_; intro g2 cap w5 hown6 hgr5 hat5 hlt5; obtain ⟨q1, q2, q3⟩ := KK.out w5 hgr5))
      all_goals
        go_wp2_with fail
        go_roundw
        case rel =>
          have cS := chg_setCell w5 (w.heap.size + 1) 1 (.slice (some ⟨g2, 0, none⟩) (k + 1) cap)
          have cA := (Chg.of_new (X := fun b => w.heap.size + 2 ≤ b) bT).trans (Chg.of_grown hgr5) fun b _ e => (hown5.lt b e).1
          have e1 := (cA.block (w.heap.size + 1) (by omega) (by omega)).trans H2.out
          have e0 := (cS.block w.heap.size (by have := cA.size; omega) (by omega)).trans ((cA.block w.heap.size (by omega) (by omega)).trans H1.out)
          have hs5 := cA.size
          refine ⟨k + 1, .slice (some ⟨g2, 0, none⟩) (k + 1) cap, by go_num, by omega, ?_, by have := cS.size; omega, e0, heap_setCell_row (k := 1) (u := .slice (some ⟨g2, 0, none⟩) (k + 1) cap) e1, ?_⟩
          · exact (hB.trans ((cA.mono fun b _ e => (by omega : w.heap.size ≤ b)).below (by omega))).setCell (p := ⟨w.heap.size + 1, 1, none⟩) (by show w.heap.size ≤ w.heap.size + 1; omega) _
          · rw [Hid, HT.out]
            exact own_chg hown6 cS fun g hg e => by have := (hown6.lt g hg).1; omega
        case measure => simp [intOf]; omega
    · obtain rfl : k = rs.length := by omega
      have k0 := cell_of_row wr (w.heap.size + 1) 0 _ _ (0, 0) H2.out
      have k1 := cell_of_row wr (w.heap.size + 1) 1 _ _ (0, 0) H2.out
      have j0 := cell_of_row wr w.heap.size 0 _ _ (0, 0) H1.out
      have j1 := cell_of_row wr w.heap.size 1 _ _ (0, 0) H1.out
      have f0 := fzB H1.out 0
      have f1 := fzB H1.out 1
      simp at k0 k1 j0 j1
      go_wp2_with fail
      refine bodyPost_ret (v := .agg #[.string F, .slice Ax rs.length cx]) (by simp [results, Tryz.results12, go_sem, j0, j1]; try rfl) rfl ?_
      have hb2 : ∀ u v, Below wr.heap.size wr wr → Below w.heap.size w ((wr.setCell ⟨w.heap.size, 0, none⟩ u).setCell ⟨w.heap.size, 1, none⟩ v) := fun u v _ => (hB.setCell (p := ⟨w.heap.size, 0, none⟩) (Nat.le_refl _) _).setCell (p := ⟨w.heap.size, 1, none⟩) (Nat.le_refl _) _
      have cS := ((chg_setCell wr w.heap.size 0 (.string F)).trans (chg_setCell (wr.setCell ⟨w.heap.size, 0, none⟩ (.string F)) w.heap.size 1 (.slice Ax rs.length cx)) fun _ _ e => e)
      refine ⟨_, rfl, ⟨vs, ?_, HALL.out.below (hb2 _ _ (Below.refl _ _))⟩, hb2 _ _ (Below.refl _ _)⟩
      have h := H3.out
      rw [List.take_of_length_le (by rw [HVL.out]; omega)] at h
      exact own_sl (own_chg h cS fun g hg e => by have := (h.lt g hg).1; omega)
/-- rows of literals -/
theorem RowAt.alloc {w : World} {A : Option Addr} {cs : List Value} (h : RowAt w A cs) (o : Obj) : RowAt (w.alloc o) A cs := h.below ((Below.refl _ _).alloc (Nat.le_refl _) o)
set_option maxHeartbeats 4000000 in
set_option maxRecDepth 100000 in
theorem rules_any0 (w : World) : Calls Tryz.prog 40 #[] w fun e w' => ∃ A, e = .returned (.slice A 2 2) ∧ RulsV w' (.slice A 2 2) rulsX ∧ Below w.heap.size w w' := by
  have r0 := row_lit w [.string ⟨#[78]⟩, .string ⟨#[83, 103]⟩] 9
  replace r0 := r0.alloc (.cells #[.string ⟨#[68, 101, 116]⟩] 9)
  replace r0 := r0.alloc (.cells #[.string ⟨#[86]⟩] 9)
  replace r0 := r0.alloc (.cells #[.string ⟨#[78]⟩] 9)
  replace r0 := r0.alloc (.cells #[.int .i64 (-1), .bool false, .bool false, .bool false, .slice (some ⟨w.heap.size + 1, 0, none⟩) 1 1, .slice none 0 0, .int .i64 1, .bool true, .bool true, .bool true, .slice (some ⟨w.heap.size + 1 + 1, 0, none⟩) 1 1, .slice (some ⟨w.heap.size + 1 + 1 + 1, 0, none⟩) 1 1] 79)
  replace r0 := r0.alloc (.cells #[.string ⟨#[86]⟩] 9)
  replace r0 := r0.alloc (.cells #[.int .i64 1, .slice (some ⟨w.heap.size, 0, none⟩) 2 2, .slice (some ⟨w.heap.size + 1 + 1 + 1 + 1, 0, none⟩) 2 2, .bool false, .int .i64 2, .slice (some ⟨w.heap.size + 1 + 1 + 1 + 1 + 1, 0, none⟩) 1 1, .slice none 0 0, .bool true] 42)
  have r1 := row_lit (w.alloc (.cells #[.string ⟨#[78]⟩, .string ⟨#[83, 103]⟩] 9)) [.string ⟨#[68, 101, 116]⟩] 9
  simp only [World.size_alloc] at r1
  replace r1 := r1.alloc (.cells #[.string ⟨#[86]⟩] 9)
  replace r1 := r1.alloc (.cells #[.string ⟨#[78]⟩] 9)
  replace r1 := r1.alloc (.cells #[.int .i64 (-1), .bool false, .bool false, .bool false, .slice (some ⟨w.heap.size + 1, 0, none⟩) 1 1, .slice none 0 0, .int .i64 1, .bool true, .bool true, .bool true, .slice (some ⟨w.heap.size + 1 + 1, 0, none⟩) 1 1, .slice (some ⟨w.heap.size + 1 + 1 + 1, 0, none⟩) 1 1] 79)
  replace r1 := r1.alloc (.cells #[.string ⟨#[86]⟩] 9)
  replace r1 := r1.alloc (.cells #[.int .i64 1, .slice (some ⟨w.heap.size, 0, none⟩) 2 2, .slice (some ⟨w.heap.size + 1 + 1 + 1 + 1, 0, none⟩) 2 2, .bool false, .int .i64 2, .slice (some ⟨w.heap.size + 1 + 1 + 1 + 1 + 1, 0, none⟩) 1 1, .slice none 0 0, .bool true] 42)
  have r2 := row_lit ((w.alloc (.cells #[.string ⟨#[78]⟩, .string ⟨#[83, 103]⟩] 9)).alloc (.cells #[.string ⟨#[68, 101, 116]⟩] 9)) [.string ⟨#[86]⟩] 9
  simp only [World.size_alloc] at r2
  replace r2 := r2.alloc (.cells #[.string ⟨#[78]⟩] 9)
  replace r2 := r2.alloc (.cells #[.int .i64 (-1), .bool false, .bool false, .bool false, .slice (some ⟨w.heap.size + 1, 0, none⟩) 1 1, .slice none 0 0, .int .i64 1, .bool true, .bool true, .bool true, .slice (some ⟨w.heap.size + 1 + 1, 0, none⟩) 1 1, .slice (some ⟨w.heap.size + 1 + 1 + 1, 0, none⟩) 1 1] 79)
  replace r2 := r2.alloc (.cells #[.string ⟨#[86]⟩] 9)
  replace r2 := r2.alloc (.cells #[.int .i64 1, .slice (some ⟨w.heap.size, 0, none⟩) 2 2, .slice (some ⟨w.heap.size + 1 + 1 + 1 + 1, 0, none⟩) 2 2, .bool false, .int .i64 2, .slice (some ⟨w.heap.size + 1 + 1 + 1 + 1 + 1, 0, none⟩) 1 1, .slice none 0 0, .bool true] 42)
  have r3 := row_lit (((w.alloc (.cells #[.string ⟨#[78]⟩, .string ⟨#[83, 103]⟩] 9)).alloc (.cells #[.string ⟨#[68, 101, 116]⟩] 9)).alloc (.cells #[.string ⟨#[86]⟩] 9)) [.string ⟨#[78]⟩] 9
  simp only [World.size_alloc] at r3
  replace r3 := r3.alloc (.cells #[.int .i64 (-1), .bool false, .bool false, .bool false, .slice (some ⟨w.heap.size + 1, 0, none⟩) 1 1, .slice none 0 0, .int .i64 1, .bool true, .bool true, .bool true, .slice (some ⟨w.heap.size + 1 + 1, 0, none⟩) 1 1, .slice (some ⟨w.heap.size + 1 + 1 + 1, 0, none⟩) 1 1] 79)
  replace r3 := r3.alloc (.cells #[.string ⟨#[86]⟩] 9)
  replace r3 := r3.alloc (.cells #[.int .i64 1, .slice (some ⟨w.heap.size, 0, none⟩) 2 2, .slice (some ⟨w.heap.size + 1 + 1 + 1 + 1, 0, none⟩) 2 2, .bool false, .int .i64 2, .slice (some ⟨w.heap.size + 1 + 1 + 1 + 1 + 1, 0, none⟩) 1 1, .slice none 0 0, .bool true] 42)
  have r4 := row_lit ((((w.alloc (.cells #[.string ⟨#[78]⟩, .string ⟨#[83, 103]⟩] 9)).alloc (.cells #[.string ⟨#[68, 101, 116]⟩] 9)).alloc (.cells #[.string ⟨#[86]⟩] 9)).alloc (.cells #[.string ⟨#[78]⟩] 9)) [.int .i64 (-1), .bool false, .bool false, .bool false, .slice (some ⟨w.heap.size + 1, 0, none⟩) 1 1, .slice none 0 0, .int .i64 1, .bool true, .bool true, .bool true, .slice (some ⟨w.heap.size + 1 + 1, 0, none⟩) 1 1, .slice (some ⟨w.heap.size + 1 + 1 + 1, 0, none⟩) 1 1] 79
  simp only [World.size_alloc] at r4
  replace r4 := r4.alloc (.cells #[.string ⟨#[86]⟩] 9)
  replace r4 := r4.alloc (.cells #[.int .i64 1, .slice (some ⟨w.heap.size, 0, none⟩) 2 2, .slice (some ⟨w.heap.size + 1 + 1 + 1 + 1, 0, none⟩) 2 2, .bool false, .int .i64 2, .slice (some ⟨w.heap.size + 1 + 1 + 1 + 1 + 1, 0, none⟩) 1 1, .slice none 0 0, .bool true] 42)
  have r5 := row_lit (((((w.alloc (.cells #[.string ⟨#[78]⟩, .string ⟨#[83, 103]⟩] 9)).alloc (.cells #[.string ⟨#[68, 101, 116]⟩] 9)).alloc (.cells #[.string ⟨#[86]⟩] 9)).alloc (.cells #[.string ⟨#[78]⟩] 9)).alloc (.cells #[.int .i64 (-1), .bool false, .bool false, .bool false, .slice (some ⟨w.heap.size + 1, 0, none⟩) 1 1, .slice none 0 0, .int .i64 1, .bool true, .bool true, .bool true, .slice (some ⟨w.heap.size + 1 + 1, 0, none⟩) 1 1, .slice (some ⟨w.heap.size + 1 + 1 + 1, 0, none⟩) 1 1] 79)) [.string ⟨#[86]⟩] 9
  simp only [World.size_alloc] at r5
  replace r5 := r5.alloc (.cells #[.int .i64 1, .slice (some ⟨w.heap.size, 0, none⟩) 2 2, .slice (some ⟨w.heap.size + 1 + 1 + 1 + 1, 0, none⟩) 2 2, .bool false, .int .i64 2, .slice (some ⟨w.heap.size + 1 + 1 + 1 + 1 + 1, 0, none⟩) 1 1, .slice none 0 0, .bool true] 42)
  have r6 := row_lit ((((((w.alloc (.cells #[.string ⟨#[78]⟩, .string ⟨#[83, 103]⟩] 9)).alloc (.cells #[.string ⟨#[68, 101, 116]⟩] 9)).alloc (.cells #[.string ⟨#[86]⟩] 9)).alloc (.cells #[.string ⟨#[78]⟩] 9)).alloc (.cells #[.int .i64 (-1), .bool false, .bool false, .bool false, .slice (some ⟨w.heap.size + 1, 0, none⟩) 1 1, .slice none 0 0, .int .i64 1, .bool true, .bool true, .bool true, .slice (some ⟨w.heap.size + 1 + 1, 0, none⟩) 1 1, .slice (some ⟨w.heap.size + 1 + 1 + 1, 0, none⟩) 1 1] 79)).alloc (.cells #[.string ⟨#[86]⟩] 9)) [.int .i64 1, .slice (some ⟨w.heap.size, 0, none⟩) 2 2, .slice (some ⟨w.heap.size + 1 + 1 + 1 + 1, 0, none⟩) 2 2, .bool false, .int .i64 2, .slice (some ⟨w.heap.size + 1 + 1 + 1 + 1 + 1, 0, none⟩) 1 1, .slice none 0 0, .bool true] 42
  simp only [World.size_alloc] at r6
  have HR := Lib.hid (And.intro r0 (And.intro r1 (And.intro r2 (And.intro r3 (And.intro r4 (And.intro r5 r6))))))
  clear r0 r1 r2 r3 r4 r5 r6
  go_enter Tryz.func40, Tryz.ntmps40
  go_wp2_with fail
  go_returns
  obtain ⟨r0, r1, r2, r3, r4, r5, r6⟩ := HR.out
  refine ⟨_, rfl, ⟨[(.slice (some ⟨w.heap.size, 0, none⟩) 2 2, .slice (some ⟨w.heap.size + 1 + 1 + 1 + 1, 0, none⟩) 2 2), (.slice (some ⟨w.heap.size + 1 + 1 + 1 + 1 + 1, 0, none⟩) 1 1, .slice none 0 0)], ⟨_, 2, rfl, Nat.le_refl _, r6⟩, ⟨⟨_, 2, rfl, Nat.le_refl _, r0⟩, [(.slice (some ⟨w.heap.size + 1, 0, none⟩) 1 1, .slice none 0 0), (.slice (some ⟨w.heap.size + 1 + 1, 0, none⟩) 1 1, .slice (some ⟨w.heap.size + 1 + 1 + 1, 0, none⟩) 1 1)], ⟨_, 2, rfl, Nat.le_refl _, r4⟩, ⟨⟨_, 1, rfl, Nat.le_refl _, r1⟩, Sl.nil _⟩, ⟨⟨_, 1, rfl, Nat.le_refl _, r2⟩, ⟨_, 1, rfl, Nat.le_refl _, r3⟩⟩, trivial⟩, ⟨⟨_, 1, rfl, Nat.le_refl _, r5⟩, [], Sl.nil _, trivial⟩, trivial⟩, ?_⟩
  repeat (first | exact Below.refl _ _ | refine Below.alloc ?_ (by simp [World.size_alloc]; omega) _ | refine Below.alloc ?_ (by simp [World.size_alloc]) _)
set_option maxHeartbeats 4000000 in
set_option maxRecDepth 100000 in
theorem cohorts_any (w : World) : Calls Tryz.prog 39 #[] w fun e w' => ∃ A, e = .returned (.slice A 2 2) ∧ CohsV w' (.slice A 2 2) cohsX ∧ Below w.heap.size w w' := by
  have r0 := ((row_lit w [.string ⟨#[78]⟩, .string ⟨#[83, 103]⟩] 9).alloc (.cells #[.string ⟨#[86]⟩] 9)).alloc (.cells #[.slice (some ⟨w.heap.size, 0, none⟩) 2 2, .slice (some ⟨w.heap.size + 1, 0, none⟩) 1 1] 31)
  have r1 := (row_lit (w.alloc (.cells #[.string ⟨#[78]⟩, .string ⟨#[83, 103]⟩] 9)) [.string ⟨#[86]⟩] 9).alloc (.cells #[.slice (some ⟨w.heap.size, 0, none⟩) 2 2, .slice (some ⟨w.heap.size + 1, 0, none⟩) 1 1] 31)
  have r2 := row_lit ((w.alloc (.cells #[.string ⟨#[78]⟩, .string ⟨#[83, 103]⟩] 9)).alloc (.cells #[.string ⟨#[86]⟩] 9)) [.slice (some ⟨w.heap.size, 0, none⟩) 2 2, .slice (some ⟨w.heap.size + 1, 0, none⟩) 1 1] 31
  simp only [World.size_alloc] at r1 r2
  have v1 : ReadsV (((w.alloc (.cells #[.string ⟨#[78]⟩, .string ⟨#[83, 103]⟩] 9)).alloc (.cells #[.string ⟨#[86]⟩] 9)).alloc (.cells #[.slice (some ⟨w.heap.size, 0, none⟩) 2 2, .slice (some ⟨w.heap.size + 1, 0, none⟩) 1 1] 31)) (.slice (some ⟨w.heap.size + 1 + 1, 0, none⟩) 2 2) [[[78], [83, 103]], [[86]]] := ⟨[.slice (some ⟨w.heap.size, 0, none⟩) 2 2, .slice (some ⟨w.heap.size + 1, 0, none⟩) 1 1], ⟨_, 2, rfl, Nat.le_refl _, r2⟩, ⟨_, 2, rfl, Nat.le_refl _, r0⟩, ⟨_, 1, rfl, Nat.le_refl _, r1⟩, trivial⟩
  have b3 : Below w.heap.size w (((w.alloc (.cells #[.string ⟨#[78]⟩, .string ⟨#[83, 103]⟩] 9)).alloc (.cells #[.string ⟨#[86]⟩] 9)).alloc (.cells #[.slice (some ⟨w.heap.size, 0, none⟩) 2 2, .slice (some ⟨w.heap.size + 1, 0, none⟩) 1 1] 31)) := (((Below.refl _ _).alloc (by simp) _).alloc (by simp) _).alloc (by simp; omega) _
  have p1 := cohort_any ⟨#[100, 111, 103]⟩ [[[78], [83, 103]], [[86]]] (some ⟨w.heap.size + 1 + 1, 0, none⟩) 2 (((w.alloc (.cells #[.string ⟨#[78]⟩, .string ⟨#[83, 103]⟩] 9)).alloc (.cells #[.string ⟨#[86]⟩] 9)).alloc (.cells #[.slice (some ⟨w.heap.size, 0, none⟩) 2 2, .slice (some ⟨w.heap.size + 1, 0, none⟩) 1 1] 31)) v1 (by decide) (by decide)
  clear r0 r1 r2 v1
  go_enter Tryz.func39, Tryz.ntmps39
  go_wp2_with fail
  refine p1.mono ?_
  rintro e w4 ⟨x, rfl, hx, b4⟩
  have bA := bstep b3 b4
  clear p1 b3 b4
  have s0 := (row_lit w4 [.string ⟨#[43, 120]⟩] 9).alloc (.cells #[.slice (some ⟨w4.heap.size, 0, none⟩) 1 1] 31)
  have s1 := row_lit (w4.alloc (.cells #[.string ⟨#[43, 120]⟩] 9)) [.slice (some ⟨w4.heap.size, 0, none⟩) 1 1] 31
  simp only [World.size_alloc] at s1
  have v2 : ReadsV ((w4.alloc (.cells #[.string ⟨#[43, 120]⟩] 9)).alloc (.cells #[.slice (some ⟨w4.heap.size, 0, none⟩) 1 1] 31)) (.slice (some ⟨w4.heap.size + 1, 0, none⟩) 1 1) [[[43, 120]]] := ⟨[.slice (some ⟨w4.heap.size, 0, none⟩) 1 1], ⟨_, 1, rfl, Nat.le_refl _, s1⟩, ⟨_, 1, rfl, Nat.le_refl _, s0⟩, trivial⟩
  have b5 : Below w4.heap.size w4 ((w4.alloc (.cells #[.string ⟨#[43, 120]⟩] 9)).alloc (.cells #[.slice (some ⟨w4.heap.size, 0, none⟩) 1 1] 31)) := ((Below.refl _ _).alloc (by simp) _).alloc (by simp) _
  have p2 := cohort_any ⟨#[97, 32, 98]⟩ [[[43, 120]]] (some ⟨w4.heap.size + 1, 0, none⟩) 1 _ v2 (by decide) (by decide)
  obtain ⟨Ax, cx, rfl⟩ := hx.form
  have HX := Lib.hid hx
  clear s0 s1 v2 hx
  go_wp2_with fail
  refine p2.mono ?_
  rintro e w6 ⟨y, rfl, hy, b6⟩
  obtain ⟨Ay, cy, rfl⟩ := hy.form
  have b7 := bstep b5 b6
  have HY := Lib.hid hy
  clear p2 hy
  go_wp2_with fail
  go_returns
  refine ⟨_, rfl, ⟨[.slice Ax 2 cx, .slice Ay 1 cy], ⟨_, 2, rfl, Nat.le_refl _, row_lit w6 _ _⟩, ReadsV.below HX.out (bstep b7 ((Below.refl _ _).alloc (Nat.le_refl _) _)), ReadsV.below HY.out ((Below.refl _ _).alloc (Nat.le_refl _) _), trivial⟩, bstep (bstep bA b7) ((Below.refl _ _).alloc (Nat.le_refl _) _)⟩
end Go.Proofs.YtplipnchkkhdaaaGreatDoor
