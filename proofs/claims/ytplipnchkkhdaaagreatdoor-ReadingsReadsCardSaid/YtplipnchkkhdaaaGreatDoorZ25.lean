/- Walk of the reference of layer 33: readTest (a test with !). -/
import Derived.Test.YtplipnchkkhdaaaGreatDoorZ24
namespace Go.Proofs.YtplipnchkkhdaaaGreatDoor
open Go.RowKit
set_option linter.unusedVariables false

set_option maxHeartbeats 16000000 in
set_option maxRecDepth 100000 in
theorem rreadTest_1 (b o c : Nat) (l : List Bs) (w : World) (hrow : RowAt w (some ⟨b, o, none⟩) (l.map S)) (hne : 0 < l.length) (hc : l.length ≤ c) (hl1 : l.length ≤ 1000000000) (hcm : c ≤ 9223372036854775807) (hsz : ∀ x ∈ l, x.length ≤ 1000000) (hcase : ∃ h : 0 < (⟨(l.headD []).toArray⟩ : ByteArray).size, ((((((⟨(l.headD []).toArray⟩ : ByteArray))[0]'h).toNat : Nat) : Int) == 33) = true ∧ cutHead (⟨(l.headD []).toArray⟩ : ByteArray).data.toList 33 = (((⟨(l.headD []).toArray⟩ : ByteArray).extract 1 (⟨(l.headD []).toArray⟩ : ByteArray).size).data.toList, true)) :
    Calls Tryz.prog 100 #[.slice (some ⟨b, o, none⟩) l.length c] w fun e w' => ∃ vT vB, e = .returned (.agg #[.int .i64 (testR l).at_, .bool (testR l).scan, .bool (testR l).not_, .bool (testR l).careful, vT, vB]) ∧
      Own w.heap.size 9 vT ((testR l).tags.map S) w' ∧ Own w.heap.size 9 vB ((testR l).barrier.map S) w' ∧ Below w.heap.size w w' := by
  obtain ⟨b', o', e0, hbl, hcell⟩ := hrow (by intro e; rw [List.map_eq_nil_iff] at e; rw [e] at hne; simp at hne)
  simp only [Option.some.injEq, Addr.mk.injEq, and_true] at e0
  obtain ⟨rfl, rfl⟩ := e0
  have HC : Hid (∀ k (hk : k < l.length), w.cell? ⟨b, o + k, none⟩ = some (S l[k])) := fun k hk => hcell k _ (getS hk)
  have h0 : w.cell? ⟨b, o, none⟩ = some (S l[0]) := HC.out 0 hne
  have hh : l.headD [] = l[0] := by cases l with | nil => simp at hne | cons x r => rfl
  have HR := Lib.hid hrow
  obtain ⟨B, hB⟩ : ∃ B : ByteArray, (⟨l[0].toArray⟩ : ByteArray) = B := ⟨_, rfl⟩
  have hBd : l.headD [] = B.data.toList := by rw [hh, ← hB]
  unfold S at h0
  rw [hB] at h0
  have n0 : (0 : Int) < (l.length : Int) := by omega
  have HSZ := Lib.hid hsz
  have b0 : b < (w.alloc (.cells #[.int .i64 0, .bool false, .bool false, .bool false, .slice none 0 0, .slice none 0 0] 79)).heap.size := by simp; omega
  have hBs : B.size ≤ 1000000 := by rw [← hB, Lib.size_eq]; exact hsz _ (List.getElem_mem _)
  have hB2 : (⟨(l.headD []).toArray⟩ : ByteArray) = B := by rw [hh]; exact hB
  rw [hB2] at hcase
  clear hB2 hB hh hrow hcell hsz
  obtain ⟨z1, q1, e1⟩ := hcase
  obtain ⟨S1, h1⟩ : ∃ S1, B.extract 1 B.size = S1 := ⟨_, rfl⟩
  rw [h1] at e1
  have s1 : S1.size ≤ 1000000 := by rw [← h1]; exact ext_size_le _ _ _ _ hBs
  rcases end_cases S1 67 with ⟨z2, e2⟩ | ⟨m2, z2, y2, ⟨q2, e2⟩ | ⟨q2, e2⟩⟩
  · have e3 : cutEnd S1.data.toList 42 = (S1.data.toList, false) := by
      rw [List.eq_nil_of_length_eq_zero (show S1.data.toList.length = 0 by rw [← Lib.size_eq]; exact z2)]; rfl
    have ht := testR_of ((congrArg (cutHead · 33) hBd).trans e1) e2 e3
    dsimp only at ht
    have HT := Lib.hid ht
    clear ht
    clear e1 e2 e3 hBd
    go_enter Tryz.func100, Tryz.ntmps100
    go_wp2_with fail
    refine (toNumber_any _ _).mono ?_
    rintro e wx ⟨rfl, rfl⟩
    go_wp2_with fail
    obtain ⟨W, hW⟩ : ∃ W, W = (w.alloc (.cells #[.int .i64 0, .bool false, .bool false, .bool false, .slice none 0 0, .slice none 0 0] 79)).alloc (.cells #[.int .i64 (toNum S1.data.toList), .bool false, .bool true, .bool false, .slice none 0 0, .slice none 0 0] 79) := ⟨_, rfl⟩
    rw [← hW]
    have bW : Below w.heap.size w W := by rw [hW]; exact ((Below.refl _ _).alloc (Nat.le_refl _) _).alloc (by simp) _
    have hz : W.heap.size = w.heap.size + 2 := by rw [hW]; simp
    have hb1 : W.heap[w.heap.size]? = some (.cells #[.int .i64 0, .bool false, .bool false, .bool false, .slice none 0 0, .slice none 0 0] 79 (0, 0)) := by
      rw [hW]
      exact (((Below.refl _ _).alloc (Nat.le_refl _) _).block w.heap.size (by simp)).trans (heap_alloc_new w _)
    have hb2 : W.heap[w.heap.size + 1]? = some (.cells #[.int .i64 (toNum S1.data.toList), .bool false, .bool true, .bool false, .slice none 0 0, .slice none 0 0] 79 (0, 0)) := by
      rw [hW]
      have := heap_alloc_new (w.alloc (.cells #[.int .i64 0, .bool false, .bool false, .bool false, .slice none 0 0, .slice none 0 0] 79)) (.cells #[.int .i64 (toNum S1.data.toList), .bool false, .bool true, .bool false, .slice none 0 0, .slice none 0 0] 79)
      simpa using this
    clear hW
    generalize toNum S1.data.toList = at' at *
    ((try clear z2); (try clear s1); (try clear h1); (try clear q1); (try clear hBs))
    have HZ := Lib.hid hz
    have HB1 := Lib.hid hb1
    have HB2 := Lib.hid hb2
    clear hz hb1 hb2
    go_loopw [5] (fun i wr => W = wr ∧ ∃ (k : Nat), i = .int .i64 k ∧ 1 ≤ k ∧ k ≤ l.length ∧ Hid (barAt l.tail = (barAt (l.drop k)).map (· + (k - 1)))) (fun i _ => l.length - (intOf i).toNat)
    case atStart => exact ⟨rfl, 1, rfl, by omega, by omega, by rw [Hid, List.drop_one]; cases barAt l.tail <;> rfl⟩
    case round =>
      obtain ⟨hw, k, rfl, hk1, hkl, H⟩ := hrel
      subst hw
      have k0 : (0 : Int) ≤ (k : Int) := by omega
      by_cases hlt : k < l.length
      · have k1 : (k : Int) < (l.length : Int) := by omega
        have kc : W.cell? ⟨b, o + k, none⟩ = some (.string ⟨l[k].toArray⟩) := (bW.cell (p := ⟨b, o + k, none⟩) hbl).trans (HC.out k hlt)
        by_cases he : l[k] = [124]
        · have HX := Lib.hid (barAt_found hlt he H.out)
          rw [he] at kc
          have HT2 : Hid (testR l = ⟨at', false, true, false, namesR (l.tail.take (k - 1)), namesR (l.drop (k + 1))⟩) := by
            rw [Hid, HT.out, HX.out]
            simp only
            rw [show k - 1 + 1 = k by omega, ← List.drop_one, List.drop_drop, Nat.add_comm]
          have p1 := names_part (k := 1) (n := k - 1) (c' := c - 1) HR.out HSZ.out (by omega) bW (by omega)
          rw [List.drop_one] at p1
          have n1 := names_len (l.tail.take (k - 1))
          have P2a : Hid (c = k + 1 → ∀ W', Below w.heap.size w W' → Calls Tryz.prog 68 #[.slice (some ⟨b, o, none⟩) (l.length - (k + 1)) 0] W' fun e w' => ∃ v, e = .returned v ∧ Own W'.heap.size 9 v ((namesR (l.drop (k + 1))).map S) w' ∧ Below W'.heap.size W' w') := by
            intro hck W' hb
            rw [show l.length - (k + 1) = 0 by omega, List.drop_eq_nil_of_le (by omega)]
            exact rnames_any (some ⟨b, o, none⟩) 0 [] W' (RowAt.nil _ _) (by simp) (by simp)
          have P2b : Hid (∀ W', Below w.heap.size w W' → Calls Tryz.prog 68 #[.slice (some ⟨b, o + (k + 1), none⟩) (l.length - (k + 1)) (c - (k + 1))] W' fun e w' => ∃ v, e = .returned v ∧ Own W'.heap.size 9 v ((namesR (l.drop (k + 1))).map S) w' ∧ Below W'.heap.size W' w') := by
            intro W' hb
            have := names_part (k := k + 1) (n := l.length - (k + 1)) (c' := c - (k + 1)) HR.out HSZ.out (by omega) hb (by omega)
            rwa [List.take_of_length_le (by rw [List.length_drop]; omega)] at this
          clear he H HX HT
          go_wp2_with fail
          refine p1.mono ?_
          rintro e W2 ⟨v1, rfl, own1, b2'⟩
          obtain ⟨N1, hN1⟩ : ∃ N, (List.map S (namesR (l.tail.take (k - 1)))).length = N := ⟨_, rfl⟩
          obtain ⟨A1, d1, rfl, hd1, _⟩ := own1.row.to hN1
          clear hN1
          have hz := HZ.out
          have hc1 := (b2'.block _ (by omega)).trans HB1.out
          have hc2 := (b2'.block _ (by omega)).trans HB2.out
          have bW2 := bstep bW b2'
          have q4 := cell_of_row W2 (w.heap.size + 1) 4 _ _ (0, 0) hc2
          have f4 := fzB hc2 4
          simp at q4
          have hz2 := b2'.size
          have O1 := Lib.hid own1
          have C1 := Lib.hid hc1
          have C2 := Lib.hid hc2
          have Z2 := Lib.hid hz2
          clear hc1 hc2 own1 p1 hz hz2
          go_wp2_with fail
          case' inl => refine (P2a.out (by assumption) _ (bW2.setCell (p := ⟨w.heap.size + 1, 4, none⟩) (by simp) _)).mono ?_
          case' inr => refine (P2b.out _ (bW2.setCell (p := ⟨w.heap.size + 1, 4, none⟩) (by simp) _)).mono ?_
          all_goals
            rintro e W3 ⟨v2, rfl, own2, b3⟩
            obtain ⟨N2, hN2⟩ : ∃ N, (List.map S (namesR (l.drop (k + 1)))).length = N := ⟨_, rfl⟩
            obtain ⟨A2, d2, rfl, hd2, _⟩ := own2.row.to hN2
            clear hN2
            have hz := HZ.out
            have hz2 := Z2.out
            have hz3 := b3.size
            rw [World.size_setCell] at hz3
            have h1 := (b3.block w.heap.size (by rw [World.size_setCell]; omega)).trans ((Below.heap_setCell _ _ _ _ (by simp)).trans C1.out)
            have h2 := (b3.block (w.heap.size + 1) (by rw [World.size_setCell]; omega)).trans (heap_setCell_same W2 (w.heap.size + 1) 4 _ _ _ C2.out)
            clear q4 f4
            have k0 := cell_of_row W3 (w.heap.size + 1) 0 _ _ (0, 0) h2
            have k1 := cell_of_row W3 (w.heap.size + 1) 1 _ _ (0, 0) h2
            have k2 := cell_of_row W3 (w.heap.size + 1) 2 _ _ (0, 0) h2
            have k3 := cell_of_row W3 (w.heap.size + 1) 3 _ _ (0, 0) h2
            have k4 := cell_of_row W3 (w.heap.size + 1) 4 _ _ (0, 0) h2
            have k5 := cell_of_row W3 (w.heap.size + 1) 5 _ _ (0, 0) h2
            have f4 := fzB h2 4
            have f5 := fzB h2 5
            have c0 := cell_of_row W3 w.heap.size 0 _ _ (0, 0) h1
            have c1' := cell_of_row W3 w.heap.size 1 _ _ (0, 0) h1
            have c2' := cell_of_row W3 w.heap.size 2 _ _ (0, 0) h1
            have c3 := cell_of_row W3 w.heap.size 3 _ _ (0, 0) h1
            have c4 := cell_of_row W3 w.heap.size 4 _ _ (0, 0) h1
            have c5 := cell_of_row W3 w.heap.size 5 _ _ (0, 0) h1
            have j0 := fzB h1 0
            have j1 := fzB h1 1
            have j2 := fzB h1 2
            have j3 := fzB h1 3
            have j4 := fzB h1 4
            have j5 := fzB h1 5
            simp at k0 k1 k2 k3 k4 k5 c0 c1' c2' c3 c4 c5
            have O2 := Lib.hid own2
            have Z3 := Lib.hid hz3
            clear h1 h2 own2 hz hz2 hz3
            go_wp2_with fail
            refine bodyPost_ret (by simp [results, Tryz.results100, go_sem, c0, c1', c2', c3, c4, c5]; try rfl) rfl ?_
            refine ⟨.slice A1 N1 d1, .slice A2 N2 d2, by rw [HT2.out], ?_, ?_, ?_⟩
            · rw [HT2.out]
              refine own_last (X := fun b => b = w.heap.size ∨ b = w.heap.size + 1) O1.out (by rw [HZ.out]; omega) (((Chg.set (Chg.refl _ W2) (Or.inr rfl) _).trans (Chg.of_new b3) (fun _ _ h => h)).trans ?_ (fun _ _ h => h)) (fun b hb => by rw [HZ.out]; omega)
              repeat (refine Chg.set ?_ (by first | exact Or.inl rfl | exact Or.inr rfl) _)
              exact Chg.refl _ _
            · rw [HT2.out]
              refine own_last (X := fun b => b = w.heap.size ∨ b = w.heap.size + 1) O2.out (by rw [World.size_setCell]; have := HZ.out; have := Z2.out; omega) ?_ (fun b hb => by rw [World.size_setCell]; have := HZ.out; have := Z2.out; omega)
              repeat (refine Chg.set ?_ (by first | exact Or.inl rfl | exact Or.inr rfl) _)
              exact Chg.refl _ _
            · have hb3 := bstep (bW2.setCell (p := ⟨w.heap.size + 1, 4, none⟩) (by simp) (.slice A1 N1 d1)) b3
              repeat (refine Below.setCell ?_ (by simp) _)
              exact hb3
        · have HX := Lib.hid (barAt_skip hk1 hlt he H.out)
          have hy : (l[k] == [124]) = false := by simpa using he
          generalize l[k] = y at *
          go_wp2_with fail
          go_roundw
          case rel => exact ⟨by trivial, k + 1, by go_num, by omega, by omega, HX.out⟩
          case measure => simp [intOf]; omega
      · obtain rfl : k = l.length := by omega
        have HX := Lib.hid (barAt_out H.out)
        have k1 : ¬ ((l.length : Int) < (l.length : Int)) := by omega
        have HT2 : Hid (testR l = ⟨at', false, true, false, namesR l.tail, []⟩) := by
          rw [Hid, HT.out, HX.out]
        have P1a : Hid (c = 1 → Calls Tryz.prog 68 #[.slice (some ⟨b, o, none⟩) (l.length - 1) 0] W fun e w' => ∃ v, e = .returned v ∧ Own W.heap.size 9 v ((namesR l.tail).map S) w' ∧ Below W.heap.size W w') := by
          intro hck
          rw [show l.length - 1 = 0 by omega, List.eq_nil_of_length_eq_zero (show l.tail.length = 0 by rw [List.length_tail]; omega)]
          exact rnames_any (some ⟨b, o, none⟩) 0 [] W (RowAt.nil _ _) (by simp) (by simp)
        have p1 := names_part (k := 1) (n := l.length - 1) (c' := c - 1) HR.out HSZ.out (by omega) bW (by omega)
        rw [List.drop_one, List.take_of_length_le (by rw [List.length_tail]; omega)] at p1
        have P1b := Lib.hid p1
        clear H HX HT p1
        go_wp2_with fail
        case' inl => refine (P1a.out (by assumption)).mono ?_
        case' inr => refine P1b.out.mono ?_
        all_goals
          rintro e W2 ⟨v1, rfl, own1, b2'⟩
          obtain ⟨N1, hN1⟩ : ∃ N, (List.map S (namesR l.tail)).length = N := ⟨_, rfl⟩
          obtain ⟨A1, d1, rfl, hd1, _⟩ := own1.row.to hN1
          clear hN1
          have hz := HZ.out
          have hz2 := b2'.size
          have h1 := (b2'.block _ (by omega)).trans HB1.out
          have h2 := (b2'.block _ (by omega)).trans HB2.out
          have k0 := cell_of_row W2 (w.heap.size + 1) 0 _ _ (0, 0) h2
          have k1 := cell_of_row W2 (w.heap.size + 1) 1 _ _ (0, 0) h2
          have k2 := cell_of_row W2 (w.heap.size + 1) 2 _ _ (0, 0) h2
          have k3 := cell_of_row W2 (w.heap.size + 1) 3 _ _ (0, 0) h2
          have k4 := cell_of_row W2 (w.heap.size + 1) 4 _ _ (0, 0) h2
          have k5 := cell_of_row W2 (w.heap.size + 1) 5 _ _ (0, 0) h2
          have f4 := fzB h2 4
          have f5 := fzB h2 5
          have c0 := cell_of_row W2 w.heap.size 0 _ _ (0, 0) h1
          have c1' := cell_of_row W2 w.heap.size 1 _ _ (0, 0) h1
          have c2' := cell_of_row W2 w.heap.size 2 _ _ (0, 0) h1
          have c3 := cell_of_row W2 w.heap.size 3 _ _ (0, 0) h1
          have c4 := cell_of_row W2 w.heap.size 4 _ _ (0, 0) h1
          have c5 := cell_of_row W2 w.heap.size 5 _ _ (0, 0) h1
          have j0 := fzB h1 0
          have j1 := fzB h1 1
          have j2 := fzB h1 2
          have j3 := fzB h1 3
          have j4 := fzB h1 4
          have j5 := fzB h1 5
          simp at k0 k1 k2 k3 k4 k5 c0 c1' c2' c3 c4 c5
          have O1 := Lib.hid own1
          have Z2 := Lib.hid hz2
          clear h1 h2 own1 hz hz2
          go_wp2_with fail
          refine bodyPost_ret (by simp [results, Tryz.results100, go_sem, c0, c1', c2', c3, c4, c5]; try rfl) rfl ?_
          refine ⟨.slice A1 N1 d1, .slice none 0 0, by rw [HT2.out], ?_, ?_, ?_⟩
          · rw [HT2.out]
            refine own_last (X := fun b => b = w.heap.size ∨ b = w.heap.size + 1) O1.out (by rw [HZ.out]; omega) ?_ (fun b hb => by rw [HZ.out]; omega)
            repeat (refine Chg.set ?_ (by first | exact Or.inl rfl | exact Or.inr rfl) _)
            exact Chg.refl _ _
          · rw [HT2.out]; exact Own.nil _ _ _
          · have hb3 := bstep bW b2'
            repeat (refine Below.setCell ?_ (by simp) _)
            exact hb3
  · rw [show (((67 : UInt8).toNat : Nat) : Int) = 67 from rfl] at q2
    obtain ⟨S2, h2⟩ : ∃ S2, S1.extract 0 m2 = S2 := ⟨_, rfl⟩
    rw [h2] at e2
    have w2 : m2 ≤ 1000000 := by have := s1; omega
    have s2 : S2.size ≤ 1000000 := by rw [← h2]; exact ext_size_le _ _ _ _ s1
    rcases end_cases S2 42 with ⟨z3, e3⟩ | ⟨m3, z3, y3, ⟨q3, e3⟩ | ⟨q3, e3⟩⟩
    · skip
      have ht := testR_of ((congrArg (cutHead · 33) hBd).trans e1) e2 e3
      dsimp only at ht
      have HT := Lib.hid ht
      clear ht
      clear e1 e2 e3 hBd
      go_enter Tryz.func100, Tryz.ntmps100
      go_wp2_with fail
      refine (toNumber_any _ _).mono ?_
      rintro e wx ⟨rfl, rfl⟩
      go_wp2_with fail
      obtain ⟨W, hW⟩ : ∃ W, W = (w.alloc (.cells #[.int .i64 0, .bool false, .bool false, .bool false, .slice none 0 0, .slice none 0 0] 79)).alloc (.cells #[.int .i64 (toNum S2.data.toList), .bool false, .bool true, .bool true, .slice none 0 0, .slice none 0 0] 79) := ⟨_, rfl⟩
      rw [← hW]
      have bW : Below w.heap.size w W := by rw [hW]; exact ((Below.refl _ _).alloc (Nat.le_refl _) _).alloc (by simp) _
      have hz : W.heap.size = w.heap.size + 2 := by rw [hW]; simp
      have hb1 : W.heap[w.heap.size]? = some (.cells #[.int .i64 0, .bool false, .bool false, .bool false, .slice none 0 0, .slice none 0 0] 79 (0, 0)) := by
        rw [hW]
        exact (((Below.refl _ _).alloc (Nat.le_refl _) _).block w.heap.size (by simp)).trans (heap_alloc_new w _)
      have hb2 : W.heap[w.heap.size + 1]? = some (.cells #[.int .i64 (toNum S2.data.toList), .bool false, .bool true, .bool true, .slice none 0 0, .slice none 0 0] 79 (0, 0)) := by
        rw [hW]
        have := heap_alloc_new (w.alloc (.cells #[.int .i64 0, .bool false, .bool false, .bool false, .slice none 0 0, .slice none 0 0] 79)) (.cells #[.int .i64 (toNum S2.data.toList), .bool false, .bool true, .bool true, .slice none 0 0, .slice none 0 0] 79)
        simpa using this
      clear hW
      generalize toNum S2.data.toList = at' at *
      ((try clear z3); (try clear s2); (try clear w2); (try clear h2); (try clear q2); (try clear z2); (try clear s1); (try clear h1); (try clear q1); (try clear hBs))
      have HZ := Lib.hid hz
      have HB1 := Lib.hid hb1
      have HB2 := Lib.hid hb2
      clear hz hb1 hb2
      go_loopw [5] (fun i wr => W = wr ∧ ∃ (k : Nat), i = .int .i64 k ∧ 1 ≤ k ∧ k ≤ l.length ∧ Hid (barAt l.tail = (barAt (l.drop k)).map (· + (k - 1)))) (fun i _ => l.length - (intOf i).toNat)
      case atStart => exact ⟨rfl, 1, rfl, by omega, by omega, by rw [Hid, List.drop_one]; cases barAt l.tail <;> rfl⟩
      case round =>
        obtain ⟨hw, k, rfl, hk1, hkl, H⟩ := hrel
        subst hw
        have k0 : (0 : Int) ≤ (k : Int) := by omega
        by_cases hlt : k < l.length
        · have k1 : (k : Int) < (l.length : Int) := by omega
          have kc : W.cell? ⟨b, o + k, none⟩ = some (.string ⟨l[k].toArray⟩) := (bW.cell (p := ⟨b, o + k, none⟩) hbl).trans (HC.out k hlt)
          by_cases he : l[k] = [124]
          · have HX := Lib.hid (barAt_found hlt he H.out)
            rw [he] at kc
            have HT2 : Hid (testR l = ⟨at', false, true, true, namesR (l.tail.take (k - 1)), namesR (l.drop (k + 1))⟩) := by
              rw [Hid, HT.out, HX.out]
              simp only
              rw [show k - 1 + 1 = k by omega, ← List.drop_one, List.drop_drop, Nat.add_comm]
            have p1 := names_part (k := 1) (n := k - 1) (c' := c - 1) HR.out HSZ.out (by omega) bW (by omega)
            rw [List.drop_one] at p1
            have n1 := names_len (l.tail.take (k - 1))
            have P2a : Hid (c = k + 1 → ∀ W', Below w.heap.size w W' → Calls Tryz.prog 68 #[.slice (some ⟨b, o, none⟩) (l.length - (k + 1)) 0] W' fun e w' => ∃ v, e = .returned v ∧ Own W'.heap.size 9 v ((namesR (l.drop (k + 1))).map S) w' ∧ Below W'.heap.size W' w') := by
              intro hck W' hb
              rw [show l.length - (k + 1) = 0 by omega, List.drop_eq_nil_of_le (by omega)]
              exact rnames_any (some ⟨b, o, none⟩) 0 [] W' (RowAt.nil _ _) (by simp) (by simp)
            have P2b : Hid (∀ W', Below w.heap.size w W' → Calls Tryz.prog 68 #[.slice (some ⟨b, o + (k + 1), none⟩) (l.length - (k + 1)) (c - (k + 1))] W' fun e w' => ∃ v, e = .returned v ∧ Own W'.heap.size 9 v ((namesR (l.drop (k + 1))).map S) w' ∧ Below W'.heap.size W' w') := by
              intro W' hb
              have := names_part (k := k + 1) (n := l.length - (k + 1)) (c' := c - (k + 1)) HR.out HSZ.out (by omega) hb (by omega)
              rwa [List.take_of_length_le (by rw [List.length_drop]; omega)] at this
            clear he H HX HT
            go_wp2_with fail
            refine p1.mono ?_
            rintro e W2 ⟨v1, rfl, own1, b2'⟩
            obtain ⟨N1, hN1⟩ : ∃ N, (List.map S (namesR (l.tail.take (k - 1)))).length = N := ⟨_, rfl⟩
            obtain ⟨A1, d1, rfl, hd1, _⟩ := own1.row.to hN1
            clear hN1
            have hz := HZ.out
            have hc1 := (b2'.block _ (by omega)).trans HB1.out
            have hc2 := (b2'.block _ (by omega)).trans HB2.out
            have bW2 := bstep bW b2'
            have q4 := cell_of_row W2 (w.heap.size + 1) 4 _ _ (0, 0) hc2
            have f4 := fzB hc2 4
            simp at q4
            have hz2 := b2'.size
            have O1 := Lib.hid own1
            have C1 := Lib.hid hc1
            have C2 := Lib.hid hc2
            have Z2 := Lib.hid hz2
            clear hc1 hc2 own1 p1 hz hz2
            go_wp2_with fail
            case' inl => refine (P2a.out (by assumption) _ (bW2.setCell (p := ⟨w.heap.size + 1, 4, none⟩) (by simp) _)).mono ?_
            case' inr => refine (P2b.out _ (bW2.setCell (p := ⟨w.heap.size + 1, 4, none⟩) (by simp) _)).mono ?_
            all_goals
              rintro e W3 ⟨v2, rfl, own2, b3⟩
              obtain ⟨N2, hN2⟩ : ∃ N, (List.map S (namesR (l.drop (k + 1)))).length = N := ⟨_, rfl⟩
              obtain ⟨A2, d2, rfl, hd2, _⟩ := own2.row.to hN2
              clear hN2
              have hz := HZ.out
              have hz2 := Z2.out
              have hz3 := b3.size
              rw [World.size_setCell] at hz3
              have h1 := (b3.block w.heap.size (by rw [World.size_setCell]; omega)).trans ((Below.heap_setCell _ _ _ _ (by simp)).trans C1.out)
              have h2 := (b3.block (w.heap.size + 1) (by rw [World.size_setCell]; omega)).trans (heap_setCell_same W2 (w.heap.size + 1) 4 _ _ _ C2.out)
              clear q4 f4
              have k0 := cell_of_row W3 (w.heap.size + 1) 0 _ _ (0, 0) h2
              have k1 := cell_of_row W3 (w.heap.size + 1) 1 _ _ (0, 0) h2
              have k2 := cell_of_row W3 (w.heap.size + 1) 2 _ _ (0, 0) h2
              have k3 := cell_of_row W3 (w.heap.size + 1) 3 _ _ (0, 0) h2
              have k4 := cell_of_row W3 (w.heap.size + 1) 4 _ _ (0, 0) h2
              have k5 := cell_of_row W3 (w.heap.size + 1) 5 _ _ (0, 0) h2
              have f4 := fzB h2 4
              have f5 := fzB h2 5
              have c0 := cell_of_row W3 w.heap.size 0 _ _ (0, 0) h1
              have c1' := cell_of_row W3 w.heap.size 1 _ _ (0, 0) h1
              have c2' := cell_of_row W3 w.heap.size 2 _ _ (0, 0) h1
              have c3 := cell_of_row W3 w.heap.size 3 _ _ (0, 0) h1
              have c4 := cell_of_row W3 w.heap.size 4 _ _ (0, 0) h1
              have c5 := cell_of_row W3 w.heap.size 5 _ _ (0, 0) h1
              have j0 := fzB h1 0
              have j1 := fzB h1 1
              have j2 := fzB h1 2
              have j3 := fzB h1 3
              have j4 := fzB h1 4
              have j5 := fzB h1 5
              simp at k0 k1 k2 k3 k4 k5 c0 c1' c2' c3 c4 c5
              have O2 := Lib.hid own2
              have Z3 := Lib.hid hz3
              clear h1 h2 own2 hz hz2 hz3
              go_wp2_with fail
              refine bodyPost_ret (by simp [results, Tryz.results100, go_sem, c0, c1', c2', c3, c4, c5]; try rfl) rfl ?_
              refine ⟨.slice A1 N1 d1, .slice A2 N2 d2, by rw [HT2.out], ?_, ?_, ?_⟩
              · rw [HT2.out]
                refine own_last (X := fun b => b = w.heap.size ∨ b = w.heap.size + 1) O1.out (by rw [HZ.out]; omega) (((Chg.set (Chg.refl _ W2) (Or.inr rfl) _).trans (Chg.of_new b3) (fun _ _ h => h)).trans ?_ (fun _ _ h => h)) (fun b hb => by rw [HZ.out]; omega)
                repeat (refine Chg.set ?_ (by first | exact Or.inl rfl | exact Or.inr rfl) _)
                exact Chg.refl _ _
              · rw [HT2.out]
                refine own_last (X := fun b => b = w.heap.size ∨ b = w.heap.size + 1) O2.out (by rw [World.size_setCell]; have := HZ.out; have := Z2.out; omega) ?_ (fun b hb => by rw [World.size_setCell]; have := HZ.out; have := Z2.out; omega)
                repeat (refine Chg.set ?_ (by first | exact Or.inl rfl | exact Or.inr rfl) _)
                exact Chg.refl _ _
              · have hb3 := bstep (bW2.setCell (p := ⟨w.heap.size + 1, 4, none⟩) (by simp) (.slice A1 N1 d1)) b3
                repeat (refine Below.setCell ?_ (by simp) _)
                exact hb3
          · have HX := Lib.hid (barAt_skip hk1 hlt he H.out)
            have hy : (l[k] == [124]) = false := by simpa using he
            generalize l[k] = y at *
            go_wp2_with fail
            go_roundw
            case rel => exact ⟨by trivial, k + 1, by go_num, by omega, by omega, HX.out⟩
            case measure => simp [intOf]; omega
        · obtain rfl : k = l.length := by omega
          have HX := Lib.hid (barAt_out H.out)
          have k1 : ¬ ((l.length : Int) < (l.length : Int)) := by omega
          have HT2 : Hid (testR l = ⟨at', false, true, true, namesR l.tail, []⟩) := by
            rw [Hid, HT.out, HX.out]
          have P1a : Hid (c = 1 → Calls Tryz.prog 68 #[.slice (some ⟨b, o, none⟩) (l.length - 1) 0] W fun e w' => ∃ v, e = .returned v ∧ Own W.heap.size 9 v ((namesR l.tail).map S) w' ∧ Below W.heap.size W w') := by
            intro hck
            rw [show l.length - 1 = 0 by omega, List.eq_nil_of_length_eq_zero (show l.tail.length = 0 by rw [List.length_tail]; omega)]
            exact rnames_any (some ⟨b, o, none⟩) 0 [] W (RowAt.nil _ _) (by simp) (by simp)
          have p1 := names_part (k := 1) (n := l.length - 1) (c' := c - 1) HR.out HSZ.out (by omega) bW (by omega)
          rw [List.drop_one, List.take_of_length_le (by rw [List.length_tail]; omega)] at p1
          have P1b := Lib.hid p1
          clear H HX HT p1
          go_wp2_with fail
          case' inl => refine (P1a.out (by assumption)).mono ?_
          case' inr => refine P1b.out.mono ?_
          all_goals
            rintro e W2 ⟨v1, rfl, own1, b2'⟩
            obtain ⟨N1, hN1⟩ : ∃ N, (List.map S (namesR l.tail)).length = N := ⟨_, rfl⟩
            obtain ⟨A1, d1, rfl, hd1, _⟩ := own1.row.to hN1
            clear hN1
            have hz := HZ.out
            have hz2 := b2'.size
            have h1 := (b2'.block _ (by omega)).trans HB1.out
            have h2 := (b2'.block _ (by omega)).trans HB2.out
            have k0 := cell_of_row W2 (w.heap.size + 1) 0 _ _ (0, 0) h2
            have k1 := cell_of_row W2 (w.heap.size + 1) 1 _ _ (0, 0) h2
            have k2 := cell_of_row W2 (w.heap.size + 1) 2 _ _ (0, 0) h2
            have k3 := cell_of_row W2 (w.heap.size + 1) 3 _ _ (0, 0) h2
            have k4 := cell_of_row W2 (w.heap.size + 1) 4 _ _ (0, 0) h2
            have k5 := cell_of_row W2 (w.heap.size + 1) 5 _ _ (0, 0) h2
            have f4 := fzB h2 4
            have f5 := fzB h2 5
            have c0 := cell_of_row W2 w.heap.size 0 _ _ (0, 0) h1
            have c1' := cell_of_row W2 w.heap.size 1 _ _ (0, 0) h1
            have c2' := cell_of_row W2 w.heap.size 2 _ _ (0, 0) h1
            have c3 := cell_of_row W2 w.heap.size 3 _ _ (0, 0) h1
            have c4 := cell_of_row W2 w.heap.size 4 _ _ (0, 0) h1
            have c5 := cell_of_row W2 w.heap.size 5 _ _ (0, 0) h1
            have j0 := fzB h1 0
            have j1 := fzB h1 1
            have j2 := fzB h1 2
            have j3 := fzB h1 3
            have j4 := fzB h1 4
            have j5 := fzB h1 5
            simp at k0 k1 k2 k3 k4 k5 c0 c1' c2' c3 c4 c5
            have O1 := Lib.hid own1
            have Z2 := Lib.hid hz2
            clear h1 h2 own1 hz hz2
            go_wp2_with fail
            refine bodyPost_ret (by simp [results, Tryz.results100, go_sem, c0, c1', c2', c3, c4, c5]; try rfl) rfl ?_
            refine ⟨.slice A1 N1 d1, .slice none 0 0, by rw [HT2.out], ?_, ?_, ?_⟩
            · rw [HT2.out]
              refine own_last (X := fun b => b = w.heap.size ∨ b = w.heap.size + 1) O1.out (by rw [HZ.out]; omega) ?_ (fun b hb => by rw [HZ.out]; omega)
              repeat (refine Chg.set ?_ (by first | exact Or.inl rfl | exact Or.inr rfl) _)
              exact Chg.refl _ _
            · rw [HT2.out]; exact Own.nil _ _ _
            · have hb3 := bstep bW b2'
              repeat (refine Below.setCell ?_ (by simp) _)
              exact hb3
    · rw [show (((42 : UInt8).toNat : Nat) : Int) = 42 from rfl] at q3
      have w3 : m3 ≤ 1000000 := by have := s2; omega
      obtain ⟨S3, h3⟩ : ∃ S3, S2.extract 0 m3 = S3 := ⟨_, rfl⟩
      rw [h3] at e3
      have ht := testR_of ((congrArg (cutHead · 33) hBd).trans e1) e2 e3
      dsimp only at ht
      have HT := Lib.hid ht
      clear ht
      clear e1 e2 e3 hBd
      go_enter Tryz.func100, Tryz.ntmps100
      go_wp2_with fail
      refine (toNumber_any _ _).mono ?_
      rintro e wx ⟨rfl, rfl⟩
      go_wp2_with fail
      obtain ⟨W, hW⟩ : ∃ W, W = (w.alloc (.cells #[.int .i64 0, .bool false, .bool false, .bool false, .slice none 0 0, .slice none 0 0] 79)).alloc (.cells #[.int .i64 (toNum S3.data.toList), .bool true, .bool true, .bool true, .slice none 0 0, .slice none 0 0] 79) := ⟨_, rfl⟩
      rw [← hW]
      have bW : Below w.heap.size w W := by rw [hW]; exact ((Below.refl _ _).alloc (Nat.le_refl _) _).alloc (by simp) _
      have hz : W.heap.size = w.heap.size + 2 := by rw [hW]; simp
      have hb1 : W.heap[w.heap.size]? = some (.cells #[.int .i64 0, .bool false, .bool false, .bool false, .slice none 0 0, .slice none 0 0] 79 (0, 0)) := by
        rw [hW]
        exact (((Below.refl _ _).alloc (Nat.le_refl _) _).block w.heap.size (by simp)).trans (heap_alloc_new w _)
      have hb2 : W.heap[w.heap.size + 1]? = some (.cells #[.int .i64 (toNum S3.data.toList), .bool true, .bool true, .bool true, .slice none 0 0, .slice none 0 0] 79 (0, 0)) := by
        rw [hW]
        have := heap_alloc_new (w.alloc (.cells #[.int .i64 0, .bool false, .bool false, .bool false, .slice none 0 0, .slice none 0 0] 79)) (.cells #[.int .i64 (toNum S3.data.toList), .bool true, .bool true, .bool true, .slice none 0 0, .slice none 0 0] 79)
        simpa using this
      clear hW
      generalize toNum S3.data.toList = at' at *
      ((try clear h3); (try clear w3); (try clear q3); (try clear z3); (try clear s2); (try clear w2); (try clear h2); (try clear q2); (try clear z2); (try clear s1); (try clear h1); (try clear q1); (try clear hBs))
      have HZ := Lib.hid hz
      have HB1 := Lib.hid hb1
      have HB2 := Lib.hid hb2
      clear hz hb1 hb2
      go_loopw [5] (fun i wr => W = wr ∧ ∃ (k : Nat), i = .int .i64 k ∧ 1 ≤ k ∧ k ≤ l.length ∧ Hid (barAt l.tail = (barAt (l.drop k)).map (· + (k - 1)))) (fun i _ => l.length - (intOf i).toNat)
      case atStart => exact ⟨rfl, 1, rfl, by omega, by omega, by rw [Hid, List.drop_one]; cases barAt l.tail <;> rfl⟩
      case round =>
        obtain ⟨hw, k, rfl, hk1, hkl, H⟩ := hrel
        subst hw
        have k0 : (0 : Int) ≤ (k : Int) := by omega
        by_cases hlt : k < l.length
        · have k1 : (k : Int) < (l.length : Int) := by omega
          have kc : W.cell? ⟨b, o + k, none⟩ = some (.string ⟨l[k].toArray⟩) := (bW.cell (p := ⟨b, o + k, none⟩) hbl).trans (HC.out k hlt)
          by_cases he : l[k] = [124]
          · have HX := Lib.hid (barAt_found hlt he H.out)
            rw [he] at kc
            have HT2 : Hid (testR l = ⟨at', true, true, true, namesR (l.tail.take (k - 1)), namesR (l.drop (k + 1))⟩) := by
              rw [Hid, HT.out, HX.out]
              simp only
              rw [show k - 1 + 1 = k by omega, ← List.drop_one, List.drop_drop, Nat.add_comm]
            have p1 := names_part (k := 1) (n := k - 1) (c' := c - 1) HR.out HSZ.out (by omega) bW (by omega)
            rw [List.drop_one] at p1
            have n1 := names_len (l.tail.take (k - 1))
            have P2a : Hid (c = k + 1 → ∀ W', Below w.heap.size w W' → Calls Tryz.prog 68 #[.slice (some ⟨b, o, none⟩) (l.length - (k + 1)) 0] W' fun e w' => ∃ v, e = .returned v ∧ Own W'.heap.size 9 v ((namesR (l.drop (k + 1))).map S) w' ∧ Below W'.heap.size W' w') := by
              intro hck W' hb
              rw [show l.length - (k + 1) = 0 by omega, List.drop_eq_nil_of_le (by omega)]
              exact rnames_any (some ⟨b, o, none⟩) 0 [] W' (RowAt.nil _ _) (by simp) (by simp)
            have P2b : Hid (∀ W', Below w.heap.size w W' → Calls Tryz.prog 68 #[.slice (some ⟨b, o + (k + 1), none⟩) (l.length - (k + 1)) (c - (k + 1))] W' fun e w' => ∃ v, e = .returned v ∧ Own W'.heap.size 9 v ((namesR (l.drop (k + 1))).map S) w' ∧ Below W'.heap.size W' w') := by
              intro W' hb
              have := names_part (k := k + 1) (n := l.length - (k + 1)) (c' := c - (k + 1)) HR.out HSZ.out (by omega) hb (by omega)
              rwa [List.take_of_length_le (by rw [List.length_drop]; omega)] at this
            clear he H HX HT
            go_wp2_with fail
            refine p1.mono ?_
            rintro e W2 ⟨v1, rfl, own1, b2'⟩
            obtain ⟨N1, hN1⟩ : ∃ N, (List.map S (namesR (l.tail.take (k - 1)))).length = N := ⟨_, rfl⟩
            obtain ⟨A1, d1, rfl, hd1, _⟩ := own1.row.to hN1
            clear hN1
            have hz := HZ.out
            have hc1 := (b2'.block _ (by omega)).trans HB1.out
            have hc2 := (b2'.block _ (by omega)).trans HB2.out
            have bW2 := bstep bW b2'
            have q4 := cell_of_row W2 (w.heap.size + 1) 4 _ _ (0, 0) hc2
            have f4 := fzB hc2 4
            simp at q4
            have hz2 := b2'.size
            have O1 := Lib.hid own1
            have C1 := Lib.hid hc1
            have C2 := Lib.hid hc2
            have Z2 := Lib.hid hz2
            clear hc1 hc2 own1 p1 hz hz2
            go_wp2_with fail
            case' inl => refine (P2a.out (by assumption) _ (bW2.setCell (p := ⟨w.heap.size + 1, 4, none⟩) (by simp) _)).mono ?_
            case' inr => refine (P2b.out _ (bW2.setCell (p := ⟨w.heap.size + 1, 4, none⟩) (by simp) _)).mono ?_
            all_goals
              rintro e W3 ⟨v2, rfl, own2, b3⟩
              obtain ⟨N2, hN2⟩ : ∃ N, (List.map S (namesR (l.drop (k + 1)))).length = N := ⟨_, rfl⟩
              obtain ⟨A2, d2, rfl, hd2, _⟩ := own2.row.to hN2
              clear hN2
              have hz := HZ.out
              have hz2 := Z2.out
              have hz3 := b3.size
              rw [World.size_setCell] at hz3
              have h1 := (b3.block w.heap.size (by rw [World.size_setCell]; omega)).trans ((Below.heap_setCell _ _ _ _ (by simp)).trans C1.out)
              have h2 := (b3.block (w.heap.size + 1) (by rw [World.size_setCell]; omega)).trans (heap_setCell_same W2 (w.heap.size + 1) 4 _ _ _ C2.out)
              clear q4 f4
              have k0 := cell_of_row W3 (w.heap.size + 1) 0 _ _ (0, 0) h2
              have k1 := cell_of_row W3 (w.heap.size + 1) 1 _ _ (0, 0) h2
              have k2 := cell_of_row W3 (w.heap.size + 1) 2 _ _ (0, 0) h2
              have k3 := cell_of_row W3 (w.heap.size + 1) 3 _ _ (0, 0) h2
              have k4 := cell_of_row W3 (w.heap.size + 1) 4 _ _ (0, 0) h2
              have k5 := cell_of_row W3 (w.heap.size + 1) 5 _ _ (0, 0) h2
              have f4 := fzB h2 4
              have f5 := fzB h2 5
              have c0 := cell_of_row W3 w.heap.size 0 _ _ (0, 0) h1
              have c1' := cell_of_row W3 w.heap.size 1 _ _ (0, 0) h1
              have c2' := cell_of_row W3 w.heap.size 2 _ _ (0, 0) h1
              have c3 := cell_of_row W3 w.heap.size 3 _ _ (0, 0) h1
              have c4 := cell_of_row W3 w.heap.size 4 _ _ (0, 0) h1
              have c5 := cell_of_row W3 w.heap.size 5 _ _ (0, 0) h1
              have j0 := fzB h1 0
              have j1 := fzB h1 1
              have j2 := fzB h1 2
              have j3 := fzB h1 3
              have j4 := fzB h1 4
              have j5 := fzB h1 5
              simp at k0 k1 k2 k3 k4 k5 c0 c1' c2' c3 c4 c5
              have O2 := Lib.hid own2
              have Z3 := Lib.hid hz3
              clear h1 h2 own2 hz hz2 hz3
              go_wp2_with fail
              refine bodyPost_ret (by simp [results, Tryz.results100, go_sem, c0, c1', c2', c3, c4, c5]; try rfl) rfl ?_
              refine ⟨.slice A1 N1 d1, .slice A2 N2 d2, by rw [HT2.out], ?_, ?_, ?_⟩
              · rw [HT2.out]
                refine own_last (X := fun b => b = w.heap.size ∨ b = w.heap.size + 1) O1.out (by rw [HZ.out]; omega) (((Chg.set (Chg.refl _ W2) (Or.inr rfl) _).trans (Chg.of_new b3) (fun _ _ h => h)).trans ?_ (fun _ _ h => h)) (fun b hb => by rw [HZ.out]; omega)
                repeat (refine Chg.set ?_ (by first | exact Or.inl rfl | exact Or.inr rfl) _)
                exact Chg.refl _ _
              · rw [HT2.out]
                refine own_last (X := fun b => b = w.heap.size ∨ b = w.heap.size + 1) O2.out (by rw [World.size_setCell]; have := HZ.out; have := Z2.out; omega) ?_ (fun b hb => by rw [World.size_setCell]; have := HZ.out; have := Z2.out; omega)
                repeat (refine Chg.set ?_ (by first | exact Or.inl rfl | exact Or.inr rfl) _)
                exact Chg.refl _ _
              · have hb3 := bstep (bW2.setCell (p := ⟨w.heap.size + 1, 4, none⟩) (by simp) (.slice A1 N1 d1)) b3
                repeat (refine Below.setCell ?_ (by simp) _)
                exact hb3
          · have HX := Lib.hid (barAt_skip hk1 hlt he H.out)
            have hy : (l[k] == [124]) = false := by simpa using he
            generalize l[k] = y at *
            go_wp2_with fail
            go_roundw
            case rel => exact ⟨by trivial, k + 1, by go_num, by omega, by omega, HX.out⟩
            case measure => simp [intOf]; omega
        · obtain rfl : k = l.length := by omega
          have HX := Lib.hid (barAt_out H.out)
          have k1 : ¬ ((l.length : Int) < (l.length : Int)) := by omega
          have HT2 : Hid (testR l = ⟨at', true, true, true, namesR l.tail, []⟩) := by
            rw [Hid, HT.out, HX.out]
          have P1a : Hid (c = 1 → Calls Tryz.prog 68 #[.slice (some ⟨b, o, none⟩) (l.length - 1) 0] W fun e w' => ∃ v, e = .returned v ∧ Own W.heap.size 9 v ((namesR l.tail).map S) w' ∧ Below W.heap.size W w') := by
            intro hck
            rw [show l.length - 1 = 0 by omega, List.eq_nil_of_length_eq_zero (show l.tail.length = 0 by rw [List.length_tail]; omega)]
            exact rnames_any (some ⟨b, o, none⟩) 0 [] W (RowAt.nil _ _) (by simp) (by simp)
          have p1 := names_part (k := 1) (n := l.length - 1) (c' := c - 1) HR.out HSZ.out (by omega) bW (by omega)
          rw [List.drop_one, List.take_of_length_le (by rw [List.length_tail]; omega)] at p1
          have P1b := Lib.hid p1
          clear H HX HT p1
          go_wp2_with fail
          case' inl => refine (P1a.out (by assumption)).mono ?_
          case' inr => refine P1b.out.mono ?_
          all_goals
            rintro e W2 ⟨v1, rfl, own1, b2'⟩
            obtain ⟨N1, hN1⟩ : ∃ N, (List.map S (namesR l.tail)).length = N := ⟨_, rfl⟩
            obtain ⟨A1, d1, rfl, hd1, _⟩ := own1.row.to hN1
            clear hN1
            have hz := HZ.out
            have hz2 := b2'.size
            have h1 := (b2'.block _ (by omega)).trans HB1.out
            have h2 := (b2'.block _ (by omega)).trans HB2.out
            have k0 := cell_of_row W2 (w.heap.size + 1) 0 _ _ (0, 0) h2
            have k1 := cell_of_row W2 (w.heap.size + 1) 1 _ _ (0, 0) h2
            have k2 := cell_of_row W2 (w.heap.size + 1) 2 _ _ (0, 0) h2
            have k3 := cell_of_row W2 (w.heap.size + 1) 3 _ _ (0, 0) h2
            have k4 := cell_of_row W2 (w.heap.size + 1) 4 _ _ (0, 0) h2
            have k5 := cell_of_row W2 (w.heap.size + 1) 5 _ _ (0, 0) h2
            have f4 := fzB h2 4
            have f5 := fzB h2 5
            have c0 := cell_of_row W2 w.heap.size 0 _ _ (0, 0) h1
            have c1' := cell_of_row W2 w.heap.size 1 _ _ (0, 0) h1
            have c2' := cell_of_row W2 w.heap.size 2 _ _ (0, 0) h1
            have c3 := cell_of_row W2 w.heap.size 3 _ _ (0, 0) h1
            have c4 := cell_of_row W2 w.heap.size 4 _ _ (0, 0) h1
            have c5 := cell_of_row W2 w.heap.size 5 _ _ (0, 0) h1
            have j0 := fzB h1 0
            have j1 := fzB h1 1
            have j2 := fzB h1 2
            have j3 := fzB h1 3
            have j4 := fzB h1 4
            have j5 := fzB h1 5
            simp at k0 k1 k2 k3 k4 k5 c0 c1' c2' c3 c4 c5
            have O1 := Lib.hid own1
            have Z2 := Lib.hid hz2
            clear h1 h2 own1 hz hz2
            go_wp2_with fail
            refine bodyPost_ret (by simp [results, Tryz.results100, go_sem, c0, c1', c2', c3, c4, c5]; try rfl) rfl ?_
            refine ⟨.slice A1 N1 d1, .slice none 0 0, by rw [HT2.out], ?_, ?_, ?_⟩
            · rw [HT2.out]
              refine own_last (X := fun b => b = w.heap.size ∨ b = w.heap.size + 1) O1.out (by rw [HZ.out]; omega) ?_ (fun b hb => by rw [HZ.out]; omega)
              repeat (refine Chg.set ?_ (by first | exact Or.inl rfl | exact Or.inr rfl) _)
              exact Chg.refl _ _
            · rw [HT2.out]; exact Own.nil _ _ _
            · have hb3 := bstep bW b2'
              repeat (refine Below.setCell ?_ (by simp) _)
              exact hb3
    · rw [show (((42 : UInt8).toNat : Nat) : Int) = 42 from rfl] at q3
      have w3 : m3 ≤ 1000000 := by have := s2; omega
      have ht := testR_of ((congrArg (cutHead · 33) hBd).trans e1) e2 e3
      dsimp only at ht
      have HT := Lib.hid ht
      clear ht
      clear e1 e2 e3 hBd
      go_enter Tryz.func100, Tryz.ntmps100
      go_wp2_with fail
      refine (toNumber_any _ _).mono ?_
      rintro e wx ⟨rfl, rfl⟩
      go_wp2_with fail
      obtain ⟨W, hW⟩ : ∃ W, W = (w.alloc (.cells #[.int .i64 0, .bool false, .bool false, .bool false, .slice none 0 0, .slice none 0 0] 79)).alloc (.cells #[.int .i64 (toNum S2.data.toList), .bool false, .bool true, .bool true, .slice none 0 0, .slice none 0 0] 79) := ⟨_, rfl⟩
      rw [← hW]
      have bW : Below w.heap.size w W := by rw [hW]; exact ((Below.refl _ _).alloc (Nat.le_refl _) _).alloc (by simp) _
      have hz : W.heap.size = w.heap.size + 2 := by rw [hW]; simp
      have hb1 : W.heap[w.heap.size]? = some (.cells #[.int .i64 0, .bool false, .bool false, .bool false, .slice none 0 0, .slice none 0 0] 79 (0, 0)) := by
        rw [hW]
        exact (((Below.refl _ _).alloc (Nat.le_refl _) _).block w.heap.size (by simp)).trans (heap_alloc_new w _)
      have hb2 : W.heap[w.heap.size + 1]? = some (.cells #[.int .i64 (toNum S2.data.toList), .bool false, .bool true, .bool true, .slice none 0 0, .slice none 0 0] 79 (0, 0)) := by
        rw [hW]
        have := heap_alloc_new (w.alloc (.cells #[.int .i64 0, .bool false, .bool false, .bool false, .slice none 0 0, .slice none 0 0] 79)) (.cells #[.int .i64 (toNum S2.data.toList), .bool false, .bool true, .bool true, .slice none 0 0, .slice none 0 0] 79)
        simpa using this
      clear hW
      generalize toNum S2.data.toList = at' at *
      ((try clear w3); (try clear q3); (try clear z3); (try clear s2); (try clear w2); (try clear h2); (try clear q2); (try clear z2); (try clear s1); (try clear h1); (try clear q1); (try clear hBs))
      have HZ := Lib.hid hz
      have HB1 := Lib.hid hb1
      have HB2 := Lib.hid hb2
      clear hz hb1 hb2
      go_loopw [5] (fun i wr => W = wr ∧ ∃ (k : Nat), i = .int .i64 k ∧ 1 ≤ k ∧ k ≤ l.length ∧ Hid (barAt l.tail = (barAt (l.drop k)).map (· + (k - 1)))) (fun i _ => l.length - (intOf i).toNat)
      case atStart => exact ⟨rfl, 1, rfl, by omega, by omega, by rw [Hid, List.drop_one]; cases barAt l.tail <;> rfl⟩
      case round =>
        obtain ⟨hw, k, rfl, hk1, hkl, H⟩ := hrel
        subst hw
        have k0 : (0 : Int) ≤ (k : Int) := by omega
        by_cases hlt : k < l.length
        · have k1 : (k : Int) < (l.length : Int) := by omega
          have kc : W.cell? ⟨b, o + k, none⟩ = some (.string ⟨l[k].toArray⟩) := (bW.cell (p := ⟨b, o + k, none⟩) hbl).trans (HC.out k hlt)
          by_cases he : l[k] = [124]
          · have HX := Lib.hid (barAt_found hlt he H.out)
            rw [he] at kc
            have HT2 : Hid (testR l = ⟨at', false, true, true, namesR (l.tail.take (k - 1)), namesR (l.drop (k + 1))⟩) := by
              rw [Hid, HT.out, HX.out]
              simp only
              rw [show k - 1 + 1 = k by omega, ← List.drop_one, List.drop_drop, Nat.add_comm]
            have p1 := names_part (k := 1) (n := k - 1) (c' := c - 1) HR.out HSZ.out (by omega) bW (by omega)
            rw [List.drop_one] at p1
            have n1 := names_len (l.tail.take (k - 1))
            have P2a : Hid (c = k + 1 → ∀ W', Below w.heap.size w W' → Calls Tryz.prog 68 #[.slice (some ⟨b, o, none⟩) (l.length - (k + 1)) 0] W' fun e w' => ∃ v, e = .returned v ∧ Own W'.heap.size 9 v ((namesR (l.drop (k + 1))).map S) w' ∧ Below W'.heap.size W' w') := by
              intro hck W' hb
              rw [show l.length - (k + 1) = 0 by omega, List.drop_eq_nil_of_le (by omega)]
              exact rnames_any (some ⟨b, o, none⟩) 0 [] W' (RowAt.nil _ _) (by simp) (by simp)
            have P2b : Hid (∀ W', Below w.heap.size w W' → Calls Tryz.prog 68 #[.slice (some ⟨b, o + (k + 1), none⟩) (l.length - (k + 1)) (c - (k + 1))] W' fun e w' => ∃ v, e = .returned v ∧ Own W'.heap.size 9 v ((namesR (l.drop (k + 1))).map S) w' ∧ Below W'.heap.size W' w') := by
              intro W' hb
              have := names_part (k := k + 1) (n := l.length - (k + 1)) (c' := c - (k + 1)) HR.out HSZ.out (by omega) hb (by omega)
              rwa [List.take_of_length_le (by rw [List.length_drop]; omega)] at this
            clear he H HX HT
            go_wp2_with fail
            refine p1.mono ?_
            rintro e W2 ⟨v1, rfl, own1, b2'⟩
            obtain ⟨N1, hN1⟩ : ∃ N, (List.map S (namesR (l.tail.take (k - 1)))).length = N := ⟨_, rfl⟩
            obtain ⟨A1, d1, rfl, hd1, _⟩ := own1.row.to hN1
            clear hN1
            have hz := HZ.out
            have hc1 := (b2'.block _ (by omega)).trans HB1.out
            have hc2 := (b2'.block _ (by omega)).trans HB2.out
            have bW2 := bstep bW b2'
            have q4 := cell_of_row W2 (w.heap.size + 1) 4 _ _ (0, 0) hc2
            have f4 := fzB hc2 4
            simp at q4
            have hz2 := b2'.size
            have O1 := Lib.hid own1
            have C1 := Lib.hid hc1
            have C2 := Lib.hid hc2
            have Z2 := Lib.hid hz2
            clear hc1 hc2 own1 p1 hz hz2
            go_wp2_with fail
            case' inl => refine (P2a.out (by assumption) _ (bW2.setCell (p := ⟨w.heap.size + 1, 4, none⟩) (by simp) _)).mono ?_
            case' inr => refine (P2b.out _ (bW2.setCell (p := ⟨w.heap.size + 1, 4, none⟩) (by simp) _)).mono ?_
            all_goals
              rintro e W3 ⟨v2, rfl, own2, b3⟩
              obtain ⟨N2, hN2⟩ : ∃ N, (List.map S (namesR (l.drop (k + 1)))).length = N := ⟨_, rfl⟩
              obtain ⟨A2, d2, rfl, hd2, _⟩ := own2.row.to hN2
              clear hN2
              have hz := HZ.out
              have hz2 := Z2.out
              have hz3 := b3.size
              rw [World.size_setCell] at hz3
              have h1 := (b3.block w.heap.size (by rw [World.size_setCell]; omega)).trans ((Below.heap_setCell _ _ _ _ (by simp)).trans C1.out)
              have h2 := (b3.block (w.heap.size + 1) (by rw [World.size_setCell]; omega)).trans (heap_setCell_same W2 (w.heap.size + 1) 4 _ _ _ C2.out)
              clear q4 f4
              have k0 := cell_of_row W3 (w.heap.size + 1) 0 _ _ (0, 0) h2
              have k1 := cell_of_row W3 (w.heap.size + 1) 1 _ _ (0, 0) h2
              have k2 := cell_of_row W3 (w.heap.size + 1) 2 _ _ (0, 0) h2
              have k3 := cell_of_row W3 (w.heap.size + 1) 3 _ _ (0, 0) h2
              have k4 := cell_of_row W3 (w.heap.size + 1) 4 _ _ (0, 0) h2
              have k5 := cell_of_row W3 (w.heap.size + 1) 5 _ _ (0, 0) h2
              have f4 := fzB h2 4
              have f5 := fzB h2 5
              have c0 := cell_of_row W3 w.heap.size 0 _ _ (0, 0) h1
              have c1' := cell_of_row W3 w.heap.size 1 _ _ (0, 0) h1
              have c2' := cell_of_row W3 w.heap.size 2 _ _ (0, 0) h1
              have c3 := cell_of_row W3 w.heap.size 3 _ _ (0, 0) h1
              have c4 := cell_of_row W3 w.heap.size 4 _ _ (0, 0) h1
              have c5 := cell_of_row W3 w.heap.size 5 _ _ (0, 0) h1
              have j0 := fzB h1 0
              have j1 := fzB h1 1
              have j2 := fzB h1 2
              have j3 := fzB h1 3
              have j4 := fzB h1 4
              have j5 := fzB h1 5
              simp at k0 k1 k2 k3 k4 k5 c0 c1' c2' c3 c4 c5
              have O2 := Lib.hid own2
              have Z3 := Lib.hid hz3
              clear h1 h2 own2 hz hz2 hz3
              go_wp2_with fail
              refine bodyPost_ret (by simp [results, Tryz.results100, go_sem, c0, c1', c2', c3, c4, c5]; try rfl) rfl ?_
              refine ⟨.slice A1 N1 d1, .slice A2 N2 d2, by rw [HT2.out], ?_, ?_, ?_⟩
              · rw [HT2.out]
                refine own_last (X := fun b => b = w.heap.size ∨ b = w.heap.size + 1) O1.out (by rw [HZ.out]; omega) (((Chg.set (Chg.refl _ W2) (Or.inr rfl) _).trans (Chg.of_new b3) (fun _ _ h => h)).trans ?_ (fun _ _ h => h)) (fun b hb => by rw [HZ.out]; omega)
                repeat (refine Chg.set ?_ (by first | exact Or.inl rfl | exact Or.inr rfl) _)
                exact Chg.refl _ _
              · rw [HT2.out]
                refine own_last (X := fun b => b = w.heap.size ∨ b = w.heap.size + 1) O2.out (by rw [World.size_setCell]; have := HZ.out; have := Z2.out; omega) ?_ (fun b hb => by rw [World.size_setCell]; have := HZ.out; have := Z2.out; omega)
                repeat (refine Chg.set ?_ (by first | exact Or.inl rfl | exact Or.inr rfl) _)
                exact Chg.refl _ _
              · have hb3 := bstep (bW2.setCell (p := ⟨w.heap.size + 1, 4, none⟩) (by simp) (.slice A1 N1 d1)) b3
                repeat (refine Below.setCell ?_ (by simp) _)
                exact hb3
          · have HX := Lib.hid (barAt_skip hk1 hlt he H.out)
            have hy : (l[k] == [124]) = false := by simpa using he
            generalize l[k] = y at *
            go_wp2_with fail
            go_roundw
            case rel => exact ⟨by trivial, k + 1, by go_num, by omega, by omega, HX.out⟩
            case measure => simp [intOf]; omega
        · obtain rfl : k = l.length := by omega
          have HX := Lib.hid (barAt_out H.out)
          have k1 : ¬ ((l.length : Int) < (l.length : Int)) := by omega
          have HT2 : Hid (testR l = ⟨at', false, true, true, namesR l.tail, []⟩) := by
            rw [Hid, HT.out, HX.out]
          have P1a : Hid (c = 1 → Calls Tryz.prog 68 #[.slice (some ⟨b, o, none⟩) (l.length - 1) 0] W fun e w' => ∃ v, e = .returned v ∧ Own W.heap.size 9 v ((namesR l.tail).map S) w' ∧ Below W.heap.size W w') := by
            intro hck
            rw [show l.length - 1 = 0 by omega, List.eq_nil_of_length_eq_zero (show l.tail.length = 0 by rw [List.length_tail]; omega)]
            exact rnames_any (some ⟨b, o, none⟩) 0 [] W (RowAt.nil _ _) (by simp) (by simp)
          have p1 := names_part (k := 1) (n := l.length - 1) (c' := c - 1) HR.out HSZ.out (by omega) bW (by omega)
          rw [List.drop_one, List.take_of_length_le (by rw [List.length_tail]; omega)] at p1
          have P1b := Lib.hid p1
          clear H HX HT p1
          go_wp2_with fail
          case' inl => refine (P1a.out (by assumption)).mono ?_
          case' inr => refine P1b.out.mono ?_
          all_goals
            rintro e W2 ⟨v1, rfl, own1, b2'⟩
            obtain ⟨N1, hN1⟩ : ∃ N, (List.map S (namesR l.tail)).length = N := ⟨_, rfl⟩
            obtain ⟨A1, d1, rfl, hd1, _⟩ := own1.row.to hN1
            clear hN1
            have hz := HZ.out
            have hz2 := b2'.size
            have h1 := (b2'.block _ (by omega)).trans HB1.out
            have h2 := (b2'.block _ (by omega)).trans HB2.out
            have k0 := cell_of_row W2 (w.heap.size + 1) 0 _ _ (0, 0) h2
            have k1 := cell_of_row W2 (w.heap.size + 1) 1 _ _ (0, 0) h2
            have k2 := cell_of_row W2 (w.heap.size + 1) 2 _ _ (0, 0) h2
            have k3 := cell_of_row W2 (w.heap.size + 1) 3 _ _ (0, 0) h2
            have k4 := cell_of_row W2 (w.heap.size + 1) 4 _ _ (0, 0) h2
            have k5 := cell_of_row W2 (w.heap.size + 1) 5 _ _ (0, 0) h2
            have f4 := fzB h2 4
            have f5 := fzB h2 5
            have c0 := cell_of_row W2 w.heap.size 0 _ _ (0, 0) h1
            have c1' := cell_of_row W2 w.heap.size 1 _ _ (0, 0) h1
            have c2' := cell_of_row W2 w.heap.size 2 _ _ (0, 0) h1
            have c3 := cell_of_row W2 w.heap.size 3 _ _ (0, 0) h1
            have c4 := cell_of_row W2 w.heap.size 4 _ _ (0, 0) h1
            have c5 := cell_of_row W2 w.heap.size 5 _ _ (0, 0) h1
            have j0 := fzB h1 0
            have j1 := fzB h1 1
            have j2 := fzB h1 2
            have j3 := fzB h1 3
            have j4 := fzB h1 4
            have j5 := fzB h1 5
            simp at k0 k1 k2 k3 k4 k5 c0 c1' c2' c3 c4 c5
            have O1 := Lib.hid own1
            have Z2 := Lib.hid hz2
            clear h1 h2 own1 hz hz2
            go_wp2_with fail
            refine bodyPost_ret (by simp [results, Tryz.results100, go_sem, c0, c1', c2', c3, c4, c5]; try rfl) rfl ?_
            refine ⟨.slice A1 N1 d1, .slice none 0 0, by rw [HT2.out], ?_, ?_, ?_⟩
            · rw [HT2.out]
              refine own_last (X := fun b => b = w.heap.size ∨ b = w.heap.size + 1) O1.out (by rw [HZ.out]; omega) ?_ (fun b hb => by rw [HZ.out]; omega)
              repeat (refine Chg.set ?_ (by first | exact Or.inl rfl | exact Or.inr rfl) _)
              exact Chg.refl _ _
            · rw [HT2.out]; exact Own.nil _ _ _
            · have hb3 := bstep bW b2'
              repeat (refine Below.setCell ?_ (by simp) _)
              exact hb3
  · rw [show (((67 : UInt8).toNat : Nat) : Int) = 67 from rfl] at q2
    rcases end_cases S1 42 with ⟨z3, e3⟩ | ⟨m3, z3, y3, ⟨q3, e3⟩ | ⟨q3, e3⟩⟩
    · exact absurd z3 (by omega)
    · rw [show (((42 : UInt8).toNat : Nat) : Int) = 42 from rfl] at q3
      obtain rfl : m3 = m2 := by omega
      have w3 : m3 ≤ 1000000 := by have := s1; omega
      obtain ⟨S3, h3⟩ : ∃ S3, S1.extract 0 m3 = S3 := ⟨_, rfl⟩
      rw [h3] at e3
      have ht := testR_of ((congrArg (cutHead · 33) hBd).trans e1) e2 e3
      dsimp only at ht
      have HT := Lib.hid ht
      clear ht
      clear e1 e2 e3 hBd
      go_enter Tryz.func100, Tryz.ntmps100
      go_wp2_with fail
      refine (toNumber_any _ _).mono ?_
      rintro e wx ⟨rfl, rfl⟩
      go_wp2_with fail
      obtain ⟨W, hW⟩ : ∃ W, W = (w.alloc (.cells #[.int .i64 0, .bool false, .bool false, .bool false, .slice none 0 0, .slice none 0 0] 79)).alloc (.cells #[.int .i64 (toNum S3.data.toList), .bool true, .bool true, .bool false, .slice none 0 0, .slice none 0 0] 79) := ⟨_, rfl⟩
      rw [← hW]
      have bW : Below w.heap.size w W := by rw [hW]; exact ((Below.refl _ _).alloc (Nat.le_refl _) _).alloc (by simp) _
      have hz : W.heap.size = w.heap.size + 2 := by rw [hW]; simp
      have hb1 : W.heap[w.heap.size]? = some (.cells #[.int .i64 0, .bool false, .bool false, .bool false, .slice none 0 0, .slice none 0 0] 79 (0, 0)) := by
        rw [hW]
        exact (((Below.refl _ _).alloc (Nat.le_refl _) _).block w.heap.size (by simp)).trans (heap_alloc_new w _)
      have hb2 : W.heap[w.heap.size + 1]? = some (.cells #[.int .i64 (toNum S3.data.toList), .bool true, .bool true, .bool false, .slice none 0 0, .slice none 0 0] 79 (0, 0)) := by
        rw [hW]
        have := heap_alloc_new (w.alloc (.cells #[.int .i64 0, .bool false, .bool false, .bool false, .slice none 0 0, .slice none 0 0] 79)) (.cells #[.int .i64 (toNum S3.data.toList), .bool true, .bool true, .bool false, .slice none 0 0, .slice none 0 0] 79)
        simpa using this
      clear hW
      generalize toNum S3.data.toList = at' at *
      ((try clear h3); (try clear w3); (try clear q3); (try clear z3); (try clear q2); (try clear s1); (try clear h1); (try clear q1); (try clear hBs))
      have HZ := Lib.hid hz
      have HB1 := Lib.hid hb1
      have HB2 := Lib.hid hb2
      clear hz hb1 hb2
      go_loopw [5] (fun i wr => W = wr ∧ ∃ (k : Nat), i = .int .i64 k ∧ 1 ≤ k ∧ k ≤ l.length ∧ Hid (barAt l.tail = (barAt (l.drop k)).map (· + (k - 1)))) (fun i _ => l.length - (intOf i).toNat)
      case atStart => exact ⟨rfl, 1, rfl, by omega, by omega, by rw [Hid, List.drop_one]; cases barAt l.tail <;> rfl⟩
      case round =>
        obtain ⟨hw, k, rfl, hk1, hkl, H⟩ := hrel
        subst hw
        have k0 : (0 : Int) ≤ (k : Int) := by omega
        by_cases hlt : k < l.length
        · have k1 : (k : Int) < (l.length : Int) := by omega
          have kc : W.cell? ⟨b, o + k, none⟩ = some (.string ⟨l[k].toArray⟩) := (bW.cell (p := ⟨b, o + k, none⟩) hbl).trans (HC.out k hlt)
          by_cases he : l[k] = [124]
          · have HX := Lib.hid (barAt_found hlt he H.out)
            rw [he] at kc
            have HT2 : Hid (testR l = ⟨at', true, true, false, namesR (l.tail.take (k - 1)), namesR (l.drop (k + 1))⟩) := by
              rw [Hid, HT.out, HX.out]
              simp only
              rw [show k - 1 + 1 = k by omega, ← List.drop_one, List.drop_drop, Nat.add_comm]
            have p1 := names_part (k := 1) (n := k - 1) (c' := c - 1) HR.out HSZ.out (by omega) bW (by omega)
            rw [List.drop_one] at p1
            have n1 := names_len (l.tail.take (k - 1))
            have P2a : Hid (c = k + 1 → ∀ W', Below w.heap.size w W' → Calls Tryz.prog 68 #[.slice (some ⟨b, o, none⟩) (l.length - (k + 1)) 0] W' fun e w' => ∃ v, e = .returned v ∧ Own W'.heap.size 9 v ((namesR (l.drop (k + 1))).map S) w' ∧ Below W'.heap.size W' w') := by
              intro hck W' hb
              rw [show l.length - (k + 1) = 0 by omega, List.drop_eq_nil_of_le (by omega)]
              exact rnames_any (some ⟨b, o, none⟩) 0 [] W' (RowAt.nil _ _) (by simp) (by simp)
            have P2b : Hid (∀ W', Below w.heap.size w W' → Calls Tryz.prog 68 #[.slice (some ⟨b, o + (k + 1), none⟩) (l.length - (k + 1)) (c - (k + 1))] W' fun e w' => ∃ v, e = .returned v ∧ Own W'.heap.size 9 v ((namesR (l.drop (k + 1))).map S) w' ∧ Below W'.heap.size W' w') := by
              intro W' hb
              have := names_part (k := k + 1) (n := l.length - (k + 1)) (c' := c - (k + 1)) HR.out HSZ.out (by omega) hb (by omega)
              rwa [List.take_of_length_le (by rw [List.length_drop]; omega)] at this
            clear he H HX HT
            go_wp2_with fail
            refine p1.mono ?_
            rintro e W2 ⟨v1, rfl, own1, b2'⟩
            obtain ⟨N1, hN1⟩ : ∃ N, (List.map S (namesR (l.tail.take (k - 1)))).length = N := ⟨_, rfl⟩
            obtain ⟨A1, d1, rfl, hd1, _⟩ := own1.row.to hN1
            clear hN1
            have hz := HZ.out
            have hc1 := (b2'.block _ (by omega)).trans HB1.out
            have hc2 := (b2'.block _ (by omega)).trans HB2.out
            have bW2 := bstep bW b2'
            have q4 := cell_of_row W2 (w.heap.size + 1) 4 _ _ (0, 0) hc2
            have f4 := fzB hc2 4
            simp at q4
            have hz2 := b2'.size
            have O1 := Lib.hid own1
            have C1 := Lib.hid hc1
            have C2 := Lib.hid hc2
            have Z2 := Lib.hid hz2
            clear hc1 hc2 own1 p1 hz hz2
            go_wp2_with fail
            case' inl => refine (P2a.out (by assumption) _ (bW2.setCell (p := ⟨w.heap.size + 1, 4, none⟩) (by simp) _)).mono ?_
            case' inr => refine (P2b.out _ (bW2.setCell (p := ⟨w.heap.size + 1, 4, none⟩) (by simp) _)).mono ?_
            all_goals
              rintro e W3 ⟨v2, rfl, own2, b3⟩
              obtain ⟨N2, hN2⟩ : ∃ N, (List.map S (namesR (l.drop (k + 1)))).length = N := ⟨_, rfl⟩
              obtain ⟨A2, d2, rfl, hd2, _⟩ := own2.row.to hN2
              clear hN2
              have hz := HZ.out
              have hz2 := Z2.out
              have hz3 := b3.size
              rw [World.size_setCell] at hz3
              have h1 := (b3.block w.heap.size (by rw [World.size_setCell]; omega)).trans ((Below.heap_setCell _ _ _ _ (by simp)).trans C1.out)
              have h2 := (b3.block (w.heap.size + 1) (by rw [World.size_setCell]; omega)).trans (heap_setCell_same W2 (w.heap.size + 1) 4 _ _ _ C2.out)
              clear q4 f4
              have k0 := cell_of_row W3 (w.heap.size + 1) 0 _ _ (0, 0) h2
              have k1 := cell_of_row W3 (w.heap.size + 1) 1 _ _ (0, 0) h2
              have k2 := cell_of_row W3 (w.heap.size + 1) 2 _ _ (0, 0) h2
              have k3 := cell_of_row W3 (w.heap.size + 1) 3 _ _ (0, 0) h2
              have k4 := cell_of_row W3 (w.heap.size + 1) 4 _ _ (0, 0) h2
              have k5 := cell_of_row W3 (w.heap.size + 1) 5 _ _ (0, 0) h2
              have f4 := fzB h2 4
              have f5 := fzB h2 5
              have c0 := cell_of_row W3 w.heap.size 0 _ _ (0, 0) h1
              have c1' := cell_of_row W3 w.heap.size 1 _ _ (0, 0) h1
              have c2' := cell_of_row W3 w.heap.size 2 _ _ (0, 0) h1
              have c3 := cell_of_row W3 w.heap.size 3 _ _ (0, 0) h1
              have c4 := cell_of_row W3 w.heap.size 4 _ _ (0, 0) h1
              have c5 := cell_of_row W3 w.heap.size 5 _ _ (0, 0) h1
              have j0 := fzB h1 0
              have j1 := fzB h1 1
              have j2 := fzB h1 2
              have j3 := fzB h1 3
              have j4 := fzB h1 4
              have j5 := fzB h1 5
              simp at k0 k1 k2 k3 k4 k5 c0 c1' c2' c3 c4 c5
              have O2 := Lib.hid own2
              have Z3 := Lib.hid hz3
              clear h1 h2 own2 hz hz2 hz3
              go_wp2_with fail
              refine bodyPost_ret (by simp [results, Tryz.results100, go_sem, c0, c1', c2', c3, c4, c5]; try rfl) rfl ?_
              refine ⟨.slice A1 N1 d1, .slice A2 N2 d2, by rw [HT2.out], ?_, ?_, ?_⟩
              · rw [HT2.out]
                refine own_last (X := fun b => b = w.heap.size ∨ b = w.heap.size + 1) O1.out (by rw [HZ.out]; omega) (((Chg.set (Chg.refl _ W2) (Or.inr rfl) _).trans (Chg.of_new b3) (fun _ _ h => h)).trans ?_ (fun _ _ h => h)) (fun b hb => by rw [HZ.out]; omega)
                repeat (refine Chg.set ?_ (by first | exact Or.inl rfl | exact Or.inr rfl) _)
                exact Chg.refl _ _
              · rw [HT2.out]
                refine own_last (X := fun b => b = w.heap.size ∨ b = w.heap.size + 1) O2.out (by rw [World.size_setCell]; have := HZ.out; have := Z2.out; omega) ?_ (fun b hb => by rw [World.size_setCell]; have := HZ.out; have := Z2.out; omega)
                repeat (refine Chg.set ?_ (by first | exact Or.inl rfl | exact Or.inr rfl) _)
                exact Chg.refl _ _
              · have hb3 := bstep (bW2.setCell (p := ⟨w.heap.size + 1, 4, none⟩) (by simp) (.slice A1 N1 d1)) b3
                repeat (refine Below.setCell ?_ (by simp) _)
                exact hb3
          · have HX := Lib.hid (barAt_skip hk1 hlt he H.out)
            have hy : (l[k] == [124]) = false := by simpa using he
            generalize l[k] = y at *
            go_wp2_with fail
            go_roundw
            case rel => exact ⟨by trivial, k + 1, by go_num, by omega, by omega, HX.out⟩
            case measure => simp [intOf]; omega
        · obtain rfl : k = l.length := by omega
          have HX := Lib.hid (barAt_out H.out)
          have k1 : ¬ ((l.length : Int) < (l.length : Int)) := by omega
          have HT2 : Hid (testR l = ⟨at', true, true, false, namesR l.tail, []⟩) := by
            rw [Hid, HT.out, HX.out]
          have P1a : Hid (c = 1 → Calls Tryz.prog 68 #[.slice (some ⟨b, o, none⟩) (l.length - 1) 0] W fun e w' => ∃ v, e = .returned v ∧ Own W.heap.size 9 v ((namesR l.tail).map S) w' ∧ Below W.heap.size W w') := by
            intro hck
            rw [show l.length - 1 = 0 by omega, List.eq_nil_of_length_eq_zero (show l.tail.length = 0 by rw [List.length_tail]; omega)]
            exact rnames_any (some ⟨b, o, none⟩) 0 [] W (RowAt.nil _ _) (by simp) (by simp)
          have p1 := names_part (k := 1) (n := l.length - 1) (c' := c - 1) HR.out HSZ.out (by omega) bW (by omega)
          rw [List.drop_one, List.take_of_length_le (by rw [List.length_tail]; omega)] at p1
          have P1b := Lib.hid p1
          clear H HX HT p1
          go_wp2_with fail
          case' inl => refine (P1a.out (by assumption)).mono ?_
          case' inr => refine P1b.out.mono ?_
          all_goals
            rintro e W2 ⟨v1, rfl, own1, b2'⟩
            obtain ⟨N1, hN1⟩ : ∃ N, (List.map S (namesR l.tail)).length = N := ⟨_, rfl⟩
            obtain ⟨A1, d1, rfl, hd1, _⟩ := own1.row.to hN1
            clear hN1
            have hz := HZ.out
            have hz2 := b2'.size
            have h1 := (b2'.block _ (by omega)).trans HB1.out
            have h2 := (b2'.block _ (by omega)).trans HB2.out
            have k0 := cell_of_row W2 (w.heap.size + 1) 0 _ _ (0, 0) h2
            have k1 := cell_of_row W2 (w.heap.size + 1) 1 _ _ (0, 0) h2
            have k2 := cell_of_row W2 (w.heap.size + 1) 2 _ _ (0, 0) h2
            have k3 := cell_of_row W2 (w.heap.size + 1) 3 _ _ (0, 0) h2
            have k4 := cell_of_row W2 (w.heap.size + 1) 4 _ _ (0, 0) h2
            have k5 := cell_of_row W2 (w.heap.size + 1) 5 _ _ (0, 0) h2
            have f4 := fzB h2 4
            have f5 := fzB h2 5
            have c0 := cell_of_row W2 w.heap.size 0 _ _ (0, 0) h1
            have c1' := cell_of_row W2 w.heap.size 1 _ _ (0, 0) h1
            have c2' := cell_of_row W2 w.heap.size 2 _ _ (0, 0) h1
            have c3 := cell_of_row W2 w.heap.size 3 _ _ (0, 0) h1
            have c4 := cell_of_row W2 w.heap.size 4 _ _ (0, 0) h1
            have c5 := cell_of_row W2 w.heap.size 5 _ _ (0, 0) h1
            have j0 := fzB h1 0
            have j1 := fzB h1 1
            have j2 := fzB h1 2
            have j3 := fzB h1 3
            have j4 := fzB h1 4
            have j5 := fzB h1 5
            simp at k0 k1 k2 k3 k4 k5 c0 c1' c2' c3 c4 c5
            have O1 := Lib.hid own1
            have Z2 := Lib.hid hz2
            clear h1 h2 own1 hz hz2
            go_wp2_with fail
            refine bodyPost_ret (by simp [results, Tryz.results100, go_sem, c0, c1', c2', c3, c4, c5]; try rfl) rfl ?_
            refine ⟨.slice A1 N1 d1, .slice none 0 0, by rw [HT2.out], ?_, ?_, ?_⟩
            · rw [HT2.out]
              refine own_last (X := fun b => b = w.heap.size ∨ b = w.heap.size + 1) O1.out (by rw [HZ.out]; omega) ?_ (fun b hb => by rw [HZ.out]; omega)
              repeat (refine Chg.set ?_ (by first | exact Or.inl rfl | exact Or.inr rfl) _)
              exact Chg.refl _ _
            · rw [HT2.out]; exact Own.nil _ _ _
            · have hb3 := bstep bW b2'
              repeat (refine Below.setCell ?_ (by simp) _)
              exact hb3
    · rw [show (((42 : UInt8).toNat : Nat) : Int) = 42 from rfl] at q3
      obtain rfl : m3 = m2 := by omega
      have w3 : m3 ≤ 1000000 := by have := s1; omega
      have ht := testR_of ((congrArg (cutHead · 33) hBd).trans e1) e2 e3
      dsimp only at ht
      have HT := Lib.hid ht
      clear ht
      clear e1 e2 e3 hBd
      go_enter Tryz.func100, Tryz.ntmps100
      go_wp2_with fail
      refine (toNumber_any _ _).mono ?_
      rintro e wx ⟨rfl, rfl⟩
      go_wp2_with fail
      obtain ⟨W, hW⟩ : ∃ W, W = (w.alloc (.cells #[.int .i64 0, .bool false, .bool false, .bool false, .slice none 0 0, .slice none 0 0] 79)).alloc (.cells #[.int .i64 (toNum S1.data.toList), .bool false, .bool true, .bool false, .slice none 0 0, .slice none 0 0] 79) := ⟨_, rfl⟩
      rw [← hW]
      have bW : Below w.heap.size w W := by rw [hW]; exact ((Below.refl _ _).alloc (Nat.le_refl _) _).alloc (by simp) _
      have hz : W.heap.size = w.heap.size + 2 := by rw [hW]; simp
      have hb1 : W.heap[w.heap.size]? = some (.cells #[.int .i64 0, .bool false, .bool false, .bool false, .slice none 0 0, .slice none 0 0] 79 (0, 0)) := by
        rw [hW]
        exact (((Below.refl _ _).alloc (Nat.le_refl _) _).block w.heap.size (by simp)).trans (heap_alloc_new w _)
      have hb2 : W.heap[w.heap.size + 1]? = some (.cells #[.int .i64 (toNum S1.data.toList), .bool false, .bool true, .bool false, .slice none 0 0, .slice none 0 0] 79 (0, 0)) := by
        rw [hW]
        have := heap_alloc_new (w.alloc (.cells #[.int .i64 0, .bool false, .bool false, .bool false, .slice none 0 0, .slice none 0 0] 79)) (.cells #[.int .i64 (toNum S1.data.toList), .bool false, .bool true, .bool false, .slice none 0 0, .slice none 0 0] 79)
        simpa using this
      clear hW
      generalize toNum S1.data.toList = at' at *
      ((try clear w3); (try clear q3); (try clear z3); (try clear q2); (try clear s1); (try clear h1); (try clear q1); (try clear hBs))
      have HZ := Lib.hid hz
      have HB1 := Lib.hid hb1
      have HB2 := Lib.hid hb2
      clear hz hb1 hb2
      go_loopw [5] (fun i wr => W = wr ∧ ∃ (k : Nat), i = .int .i64 k ∧ 1 ≤ k ∧ k ≤ l.length ∧ Hid (barAt l.tail = (barAt (l.drop k)).map (· + (k - 1)))) (fun i _ => l.length - (intOf i).toNat)
      case atStart => exact ⟨rfl, 1, rfl, by omega, by omega, by rw [Hid, List.drop_one]; cases barAt l.tail <;> rfl⟩
      case round =>
        obtain ⟨hw, k, rfl, hk1, hkl, H⟩ := hrel
        subst hw
        have k0 : (0 : Int) ≤ (k : Int) := by omega
        by_cases hlt : k < l.length
        · have k1 : (k : Int) < (l.length : Int) := by omega
          have kc : W.cell? ⟨b, o + k, none⟩ = some (.string ⟨l[k].toArray⟩) := (bW.cell (p := ⟨b, o + k, none⟩) hbl).trans (HC.out k hlt)
          by_cases he : l[k] = [124]
          · have HX := Lib.hid (barAt_found hlt he H.out)
            rw [he] at kc
            have HT2 : Hid (testR l = ⟨at', false, true, false, namesR (l.tail.take (k - 1)), namesR (l.drop (k + 1))⟩) := by
              rw [Hid, HT.out, HX.out]
              simp only
              rw [show k - 1 + 1 = k by omega, ← List.drop_one, List.drop_drop, Nat.add_comm]
            have p1 := names_part (k := 1) (n := k - 1) (c' := c - 1) HR.out HSZ.out (by omega) bW (by omega)
            rw [List.drop_one] at p1
            have n1 := names_len (l.tail.take (k - 1))
            have P2a : Hid (c = k + 1 → ∀ W', Below w.heap.size w W' → Calls Tryz.prog 68 #[.slice (some ⟨b, o, none⟩) (l.length - (k + 1)) 0] W' fun e w' => ∃ v, e = .returned v ∧ Own W'.heap.size 9 v ((namesR (l.drop (k + 1))).map S) w' ∧ Below W'.heap.size W' w') := by
              intro hck W' hb
              rw [show l.length - (k + 1) = 0 by omega, List.drop_eq_nil_of_le (by omega)]
              exact rnames_any (some ⟨b, o, none⟩) 0 [] W' (RowAt.nil _ _) (by simp) (by simp)
            have P2b : Hid (∀ W', Below w.heap.size w W' → Calls Tryz.prog 68 #[.slice (some ⟨b, o + (k + 1), none⟩) (l.length - (k + 1)) (c - (k + 1))] W' fun e w' => ∃ v, e = .returned v ∧ Own W'.heap.size 9 v ((namesR (l.drop (k + 1))).map S) w' ∧ Below W'.heap.size W' w') := by
              intro W' hb
              have := names_part (k := k + 1) (n := l.length - (k + 1)) (c' := c - (k + 1)) HR.out HSZ.out (by omega) hb (by omega)
              rwa [List.take_of_length_le (by rw [List.length_drop]; omega)] at this
            clear he H HX HT
            go_wp2_with fail
            refine p1.mono ?_
            rintro e W2 ⟨v1, rfl, own1, b2'⟩
            obtain ⟨N1, hN1⟩ : ∃ N, (List.map S (namesR (l.tail.take (k - 1)))).length = N := ⟨_, rfl⟩
            obtain ⟨A1, d1, rfl, hd1, _⟩ := own1.row.to hN1
            clear hN1
            have hz := HZ.out
            have hc1 := (b2'.block _ (by omega)).trans HB1.out
            have hc2 := (b2'.block _ (by omega)).trans HB2.out
            have bW2 := bstep bW b2'
            have q4 := cell_of_row W2 (w.heap.size + 1) 4 _ _ (0, 0) hc2
            have f4 := fzB hc2 4
            simp at q4
            have hz2 := b2'.size
            have O1 := Lib.hid own1
            have C1 := Lib.hid hc1
            have C2 := Lib.hid hc2
            have Z2 := Lib.hid hz2
            clear hc1 hc2 own1 p1 hz hz2
            go_wp2_with fail
            case' inl => refine (P2a.out (by assumption) _ (bW2.setCell (p := ⟨w.heap.size + 1, 4, none⟩) (by simp) _)).mono ?_
            case' inr => refine (P2b.out _ (bW2.setCell (p := ⟨w.heap.size + 1, 4, none⟩) (by simp) _)).mono ?_
            all_goals
              rintro e W3 ⟨v2, rfl, own2, b3⟩
              obtain ⟨N2, hN2⟩ : ∃ N, (List.map S (namesR (l.drop (k + 1)))).length = N := ⟨_, rfl⟩
              obtain ⟨A2, d2, rfl, hd2, _⟩ := own2.row.to hN2
              clear hN2
              have hz := HZ.out
              have hz2 := Z2.out
              have hz3 := b3.size
              rw [World.size_setCell] at hz3
              have h1 := (b3.block w.heap.size (by rw [World.size_setCell]; omega)).trans ((Below.heap_setCell _ _ _ _ (by simp)).trans C1.out)
              have h2 := (b3.block (w.heap.size + 1) (by rw [World.size_setCell]; omega)).trans (heap_setCell_same W2 (w.heap.size + 1) 4 _ _ _ C2.out)
              clear q4 f4
              have k0 := cell_of_row W3 (w.heap.size + 1) 0 _ _ (0, 0) h2
              have k1 := cell_of_row W3 (w.heap.size + 1) 1 _ _ (0, 0) h2
              have k2 := cell_of_row W3 (w.heap.size + 1) 2 _ _ (0, 0) h2
              have k3 := cell_of_row W3 (w.heap.size + 1) 3 _ _ (0, 0) h2
              have k4 := cell_of_row W3 (w.heap.size + 1) 4 _ _ (0, 0) h2
              have k5 := cell_of_row W3 (w.heap.size + 1) 5 _ _ (0, 0) h2
              have f4 := fzB h2 4
              have f5 := fzB h2 5
              have c0 := cell_of_row W3 w.heap.size 0 _ _ (0, 0) h1
              have c1' := cell_of_row W3 w.heap.size 1 _ _ (0, 0) h1
              have c2' := cell_of_row W3 w.heap.size 2 _ _ (0, 0) h1
              have c3 := cell_of_row W3 w.heap.size 3 _ _ (0, 0) h1
              have c4 := cell_of_row W3 w.heap.size 4 _ _ (0, 0) h1
              have c5 := cell_of_row W3 w.heap.size 5 _ _ (0, 0) h1
              have j0 := fzB h1 0
              have j1 := fzB h1 1
              have j2 := fzB h1 2
              have j3 := fzB h1 3
              have j4 := fzB h1 4
              have j5 := fzB h1 5
              simp at k0 k1 k2 k3 k4 k5 c0 c1' c2' c3 c4 c5
              have O2 := Lib.hid own2
              have Z3 := Lib.hid hz3
              clear h1 h2 own2 hz hz2 hz3
              go_wp2_with fail
              refine bodyPost_ret (by simp [results, Tryz.results100, go_sem, c0, c1', c2', c3, c4, c5]; try rfl) rfl ?_
              refine ⟨.slice A1 N1 d1, .slice A2 N2 d2, by rw [HT2.out], ?_, ?_, ?_⟩
              · rw [HT2.out]
                refine own_last (X := fun b => b = w.heap.size ∨ b = w.heap.size + 1) O1.out (by rw [HZ.out]; omega) (((Chg.set (Chg.refl _ W2) (Or.inr rfl) _).trans (Chg.of_new b3) (fun _ _ h => h)).trans ?_ (fun _ _ h => h)) (fun b hb => by rw [HZ.out]; omega)
                repeat (refine Chg.set ?_ (by first | exact Or.inl rfl | exact Or.inr rfl) _)
                exact Chg.refl _ _
              · rw [HT2.out]
                refine own_last (X := fun b => b = w.heap.size ∨ b = w.heap.size + 1) O2.out (by rw [World.size_setCell]; have := HZ.out; have := Z2.out; omega) ?_ (fun b hb => by rw [World.size_setCell]; have := HZ.out; have := Z2.out; omega)
                repeat (refine Chg.set ?_ (by first | exact Or.inl rfl | exact Or.inr rfl) _)
                exact Chg.refl _ _
              · have hb3 := bstep (bW2.setCell (p := ⟨w.heap.size + 1, 4, none⟩) (by simp) (.slice A1 N1 d1)) b3
                repeat (refine Below.setCell ?_ (by simp) _)
                exact hb3
          · have HX := Lib.hid (barAt_skip hk1 hlt he H.out)
            have hy : (l[k] == [124]) = false := by simpa using he
            generalize l[k] = y at *
            go_wp2_with fail
            go_roundw
            case rel => exact ⟨by trivial, k + 1, by go_num, by omega, by omega, HX.out⟩
            case measure => simp [intOf]; omega
        · obtain rfl : k = l.length := by omega
          have HX := Lib.hid (barAt_out H.out)
          have k1 : ¬ ((l.length : Int) < (l.length : Int)) := by omega
          have HT2 : Hid (testR l = ⟨at', false, true, false, namesR l.tail, []⟩) := by
            rw [Hid, HT.out, HX.out]
          have P1a : Hid (c = 1 → Calls Tryz.prog 68 #[.slice (some ⟨b, o, none⟩) (l.length - 1) 0] W fun e w' => ∃ v, e = .returned v ∧ Own W.heap.size 9 v ((namesR l.tail).map S) w' ∧ Below W.heap.size W w') := by
            intro hck
            rw [show l.length - 1 = 0 by omega, List.eq_nil_of_length_eq_zero (show l.tail.length = 0 by rw [List.length_tail]; omega)]
            exact rnames_any (some ⟨b, o, none⟩) 0 [] W (RowAt.nil _ _) (by simp) (by simp)
          have p1 := names_part (k := 1) (n := l.length - 1) (c' := c - 1) HR.out HSZ.out (by omega) bW (by omega)
          rw [List.drop_one, List.take_of_length_le (by rw [List.length_tail]; omega)] at p1
          have P1b := Lib.hid p1
          clear H HX HT p1
          go_wp2_with fail
          case' inl => refine (P1a.out (by assumption)).mono ?_
          case' inr => refine P1b.out.mono ?_
          all_goals
            rintro e W2 ⟨v1, rfl, own1, b2'⟩
            obtain ⟨N1, hN1⟩ : ∃ N, (List.map S (namesR l.tail)).length = N := ⟨_, rfl⟩
            obtain ⟨A1, d1, rfl, hd1, _⟩ := own1.row.to hN1
            clear hN1
            have hz := HZ.out
            have hz2 := b2'.size
            have h1 := (b2'.block _ (by omega)).trans HB1.out
            have h2 := (b2'.block _ (by omega)).trans HB2.out
            have k0 := cell_of_row W2 (w.heap.size + 1) 0 _ _ (0, 0) h2
            have k1 := cell_of_row W2 (w.heap.size + 1) 1 _ _ (0, 0) h2
            have k2 := cell_of_row W2 (w.heap.size + 1) 2 _ _ (0, 0) h2
            have k3 := cell_of_row W2 (w.heap.size + 1) 3 _ _ (0, 0) h2
            have k4 := cell_of_row W2 (w.heap.size + 1) 4 _ _ (0, 0) h2
            have k5 := cell_of_row W2 (w.heap.size + 1) 5 _ _ (0, 0) h2
            have f4 := fzB h2 4
            have f5 := fzB h2 5
            have c0 := cell_of_row W2 w.heap.size 0 _ _ (0, 0) h1
            have c1' := cell_of_row W2 w.heap.size 1 _ _ (0, 0) h1
            have c2' := cell_of_row W2 w.heap.size 2 _ _ (0, 0) h1
            have c3 := cell_of_row W2 w.heap.size 3 _ _ (0, 0) h1
            have c4 := cell_of_row W2 w.heap.size 4 _ _ (0, 0) h1
            have c5 := cell_of_row W2 w.heap.size 5 _ _ (0, 0) h1
            have j0 := fzB h1 0
            have j1 := fzB h1 1
            have j2 := fzB h1 2
            have j3 := fzB h1 3
            have j4 := fzB h1 4
            have j5 := fzB h1 5
            simp at k0 k1 k2 k3 k4 k5 c0 c1' c2' c3 c4 c5
            have O1 := Lib.hid own1
            have Z2 := Lib.hid hz2
            clear h1 h2 own1 hz hz2
            go_wp2_with fail
            refine bodyPost_ret (by simp [results, Tryz.results100, go_sem, c0, c1', c2', c3, c4, c5]; try rfl) rfl ?_
            refine ⟨.slice A1 N1 d1, .slice none 0 0, by rw [HT2.out], ?_, ?_, ?_⟩
            · rw [HT2.out]
              refine own_last (X := fun b => b = w.heap.size ∨ b = w.heap.size + 1) O1.out (by rw [HZ.out]; omega) ?_ (fun b hb => by rw [HZ.out]; omega)
              repeat (refine Chg.set ?_ (by first | exact Or.inl rfl | exact Or.inr rfl) _)
              exact Chg.refl _ _
            · rw [HT2.out]; exact Own.nil _ _ _
            · have hb3 := bstep bW b2'
              repeat (refine Below.setCell ?_ (by simp) _)
              exact hb3
end Go.Proofs.YtplipnchkkhdaaaGreatDoor
