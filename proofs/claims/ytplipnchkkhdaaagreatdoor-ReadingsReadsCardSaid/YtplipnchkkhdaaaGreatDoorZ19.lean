/- Walks of the reference of layer 1: Lower, Upper, Quote. -/
import Derived.Test.YtplipnchkkhdaaaGreatDoorZ02
import Derived.Test.YtplipnchkkhdaaaGreatDoorZ11
namespace Go.Proofs.YtplipnchkkhdaaaGreatDoor
open Go.RowKit
set_option linter.unusedVariables false

set_option maxHeartbeats 1000000 in
set_option maxRecDepth 100000 in
theorem rquote_any (s : ByteArray) (w : World) (hs : s.size ≤ 100000000) :
    Calls Tryz.prog 47 #[.string s] w fun e w' => e = .returned (.string ⟨(quoteL s.data.toList).toArray⟩) ∧ Below w.heap.size w w' := by
  obtain ⟨i0, hi, hz0, hz1, hz2⟩ := info_parts byteInfo
  by_cases he : s.size = 0
  · have hemp := isEmpty_of he
    have h0 : Hid (quoteL s.data.toList = [37, 48]) := by unfold Hid quoteL; rw [data_nil he]; rfl
    go_enter Tryz.func47, Tryz.ntmps47
    go_wp2
    go_returns
    exact ⟨by rw [h0.out]; rfl, Below.refl _ _⟩
  · have hemp := not_isEmpty_of he
    have h0 : Hid (quoteL s.data.toList = (pieces s.data.toList).flatMap unitP) := by unfold Hid quoteL; rw [if_neg (data_ne he)]; rfl
    have hpc := pieces_any s w (by omega)
    have hfl := Lib.hid (pieces_flat s.data.toList)
    have hne := pieces_ne s.data.toList
    have hpl := pieces_len s.data.toList
    have hsz := Lib.size_eq s
    have hpl2 : (pieces s.data.toList).length ≤ 100000000 := by omega
    clear hpl hsz
    generalize pieces s.data.toList = l at *
    have hfl2 : l.flatten.length ≤ 100000000 := by rw [hfl.out, ← Lib.size_eq]; exact hs
    go_enter Tryz.func47, Tryz.ntmps47
    go_wp2_with (first | (go_at_call 85; refine hpc.mono ?_; rintro e w1 ⟨A, cap, rfl, hcap, hrow, hb1⟩))
    go_loopw [3, 5] (fun v i wr => ∃ (k : Nat) (acc : Bs), i = .int .i64 k ∧ k ≤ l.length ∧ Below w1.heap.size w1 wr ∧ Own w1.heap.size 5 v (Lib.byteCells acc) wr ∧ acc.length ≤ 5 * offK l k ∧ Hid (acc = (l.take k).flatMap unitP)) (fun _ i _ => l.length - (intOf i).toNat)
    case atStart => exact ⟨0, [], rfl, by omega, Below.refl _ _, Own.nil _ _ _, by simp, by simp [Hid]⟩
    case round =>
      obtain ⟨k, acc, rfl, hk, hb, hown, hal, H⟩ := hrel
      by_cases hlt : k < l.length
      · obtain ⟨b, o, rfl, hbl, hcell⟩ := (hrow.below hb) (by intro e; rw [List.map_eq_nil_iff] at e; rw [e] at hlt; simp at hlt)
        have hc : wr.cell? ⟨b, o + k, none⟩ = some (.string ⟨l[k].toArray⟩) := hcell k _ (getS hlt)
        have hfk := offK_le l (k + 1)
        have hfk1 := offK_succ l k hlt
        have hlk : (⟨l[k].toArray⟩ : ByteArray).size = l[k].length := by rw [Lib.size_eq]
        have hlk0 : 0 < l[k].length := List.length_pos_iff.2 (hne _ (List.getElem_mem hlt))
        have hu := runit_any ⟨l[k].toArray⟩ wr (by rw [hlk]; omega) (by rw [hlk]; exact hlk0)
        have hul := unitP_len l[k]
        have HN : Hid ((l.take (k + 1)).flatMap unitP = (l.take k).flatMap unitP ++ unitP l[k]) := by unfold Hid; rw [List.take_succ_eq_append_getElem hlt, List.flatMap_append]; simp
        have hsu : (⟨(unitP l[k]).toArray⟩ : ByteArray).size = (unitP l[k]).length := by rw [Lib.size_eq]
        have hcv : acc.length + (⟨(unitP l[k]).toArray⟩ : ByteArray).size ≤ 140737488355328 := by rw [hsu]; omega
        have hac : (acc ++ unitP l[k]).length ≤ 5 * offK l (k + 1) := by rw [List.length_append]; omega
        have hu' : Calls Tryz.prog 86 #[.string ⟨l[k].toArray⟩] wr fun e w' => e = .returned (.string ⟨(unitP l[k]).toArray⟩) ∧ Below wr.heap.size wr w' := hu
        generalize unitP l[k] = U at *
        clear hcell hlk hsu hu hfk1
        go_wp2_with (first | (go_at_call 86; refine hu'.mono ?_; rintro e w2 ⟨rfl, hb2⟩; have hown2 := hown.below hb2; have hbA := bstep hb hb2) | (at_builtin; refine wpList_appS rfl (.tmp 16) (.tmp 21) 67 9 rfl w1.heap.size 5 i0 Tryz.underlying67 Tryz.underlying9 hi hz0 hz1 hz2 _ acc rfl hown2 rfl hcv hbA.size ?_; intro v' w3 hown4 hb4))
        go_roundw
        case rel => exact ⟨k + 1, acc ++ U, by go_num, by omega, hbA.trans hb4, hown4, hac, by unfold Hid; rw [HN.out, H.out]⟩
        case measure => simp [intOf]; omega
      · obtain rfl : k = l.length := by omega
        have hcv := own_string Tryz.underlying67 Tryz.underlying5 Tryz.underlying9 hown
        go_wp2_with fail
        go_returns
        exact ⟨by rw [h0.out, H.out, List.take_length]; rfl, bstep hb1 hb⟩


/- Walks of the reference of layer 33: quoted, number. -/
open Go.RowKit
set_option linter.unusedVariables false

theorem joinS_take {l : List Bs} {k : Nat} (h : k < l.length) (hk : k ≠ 0) : joinS ((l.take (k + 1)).map quoteL) = joinS ((l.take k).map quoteL) ++ [32] ++ quoteL l[k] := by
  rw [List.take_succ_eq_append_getElem h, List.map_append, joinS_append]
  · simp [joinS]
  · intro e
    have := congrArg List.length e
    simp only [List.length_map, List.length_take, List.length_nil] at this
    omega
  · simp
theorem joinS_take0 {l : List Bs} (h : 0 < l.length) : joinS ((l.take (0 + 1)).map quoteL) = quoteL l[0] := by
  rw [List.take_succ_eq_append_getElem h]
  simp [joinS]
theorem few_take {l : List Bs} (h : Few l) (k : Nat) : (joinS ((l.take k).map quoteL)).length ≤ 5000 := by
  have := quoted_len (l := l.take k) ⟨by rw [List.length_take]; have := h.1; omega, fun x hx => h.2 x (List.mem_of_mem_take hx)⟩
  exact this
set_option maxHeartbeats 4000000 in
set_option maxRecDepth 100000 in
theorem rquoted_any (A : Option Addr) (c : Nat) (l : List Bs) (w : World) (hrow : RowAt w A (l.map S)) (hF : Few l) :
    Calls Tryz.prog 48 #[.slice A l.length c] w fun e w' => e = .returned (.string ⟨(quotedL l).toArray⟩) ∧ Below w.heap.size w w' := by
  obtain ⟨i0, hi, hz0, hz1, hz2⟩ := info_parts byteInfo
  have HF := Lib.hid hF
  have hl20 := hF.1
  have HQ : Hid (quotedL l = joinS (l.map quoteL)) := rfl
  clear hF
  go_enter Tryz.func48, Tryz.ntmps48
  go_wp2_with fail
  go_loopw [3, 4] (fun v i wr => ∃ (k : Nat) (acc : Bs), i = .int .i64 k ∧ k ≤ l.length ∧ Below w.heap.size w wr ∧ Own w.heap.size 5 v (Lib.byteCells acc) wr ∧ acc.length ≤ 5000 ∧ Hid (acc = joinS ((l.take k).map quoteL))) (fun _ i _ => l.length - (intOf i).toNat)
  case atStart => exact ⟨0, [], rfl, by omega, Below.refl _ _, Own.nil _ _ _, by simp, by simp [Hid, joinS]⟩
  case round =>
    obtain ⟨k, acc, rfl, hk, hB, hown, hal, H⟩ := hrel
    by_cases hlt : k < l.length
    · obtain ⟨b, o, rfl, hbl, hcell⟩ := hrow (by intro e; rw [List.map_eq_nil_iff] at e; rw [e] at hlt; simp at hlt)
      have k1 : wr.cell? ⟨b, o + k, none⟩ = some (.string ⟨l[k].toArray⟩) := (hB.cell (p := ⟨b, o + k, none⟩) hbl).trans (hcell k _ (getS hlt))
      have hx40 := HF.out.2 l[k] (List.getElem_mem _)
      have p1 := fun (W : World) => rquote_any ⟨l[k].toArray⟩ W (by rw [Lib.size_eq]; show l[k].length ≤ _; omega)
      have e1 : (⟨l[k].toArray⟩ : ByteArray).data.toList = l[k] := rfl
      rw [e1] at p1
      have hql := quote_len l[k]
      have HN := Lib.hid (joinS_take hlt)
      have HN0 : Hid (k = 0 → joinS ((l.take (k + 1)).map quoteL) = quoteL l[k]) := fun h => by subst h; exact joinS_take0 hlt
      have hfl := few_take HF.out (k + 1)
      have HFL := Lib.hid hfl
      obtain ⟨Q, hQ⟩ : ∃ Q : ByteArray, (⟨(quoteL l[k]).toArray⟩ : ByteArray) = Q := ⟨_, rfl⟩
      have hQd : quoteL l[k] = Q.data.toList := by rw [← hQ]
      rw [hQ] at p1
      rw [hQd] at HN HN0 hql
      generalize l[k] = y at *
      have hQs : Q.size ≤ 202 := by rw [Lib.size_eq]; omega
      have k0 : (0 : Int) ≤ (k : Int) := by omega
      have kl : (k : Int) < (l.length : Int) := by omega
      clear hcell e1 hQ hQd hfl hql hx40
      by_cases hk0 : k = 0
      · subst hk0
        have HX := Lib.hid (HN0.out rfl)
        simp only [Nat.add_zero] at k1
        have hacc : acc = [] := by rw [H.out]; simp [joinS]
        subst hacc
        have hcv : ([] : Bs).length + Q.size ≤ 140737488355328 := by simp; omega
        clear HN HN0 H
        go_wp2_with fail
        refine (p1 _).mono ?_
        rintro e w2 ⟨rfl, b2⟩
        have hown2 := hown.below b2
        have hB2 := bstep hB b2
        go_wp2_with (at_builtin; refine wpList_appS rfl (.tmp 16) (.tmp 21) 67 9 rfl w.heap.size 5 i0 Tryz.underlying67 Tryz.underlying9 hi hz0 hz1 hz2 _ [] rfl hown2 rfl hcv hB2.size ?_; intro v' w3 hown4 hb4)
        go_roundw
        case rel =>
          refine ⟨1, [] ++ Q.data.toList, by go_num, by omega, hB2.trans hb4, hown4, ?_, ?_⟩
          · rw [List.nil_append, ← Lib.size_eq]; omega
          · rw [Hid, List.nil_append]; exact HX.out.symm
        case measure => simp [intOf]; omega
      · have HX := Lib.hid (HN.out hk0)
        have d0 : (0 : Int) < (k : Int) := by omega
        have hml : (Lib.byteCells acc).length + 1 ≤ maxLen := by rw [Lib.byteCells_length]; unfold maxLen; omega
        have hmb : ((Lib.byteCells acc).length + 1) * 1 ≤ 140737488355328 := by rw [Lib.byteCells_length]; omega
        have hcv : (acc ++ [32]).length + Q.size ≤ 140737488355328 := by rw [List.length_append]; simp; omega
        clear HN HN0 hk0
        go_wp2_with (at_builtin; refine wpList_app1 rfl (.tmp 13) (.tmp 14) 67 rfl w.heap.size i0 _ 1 Tryz.underlying67 hi hz0 hz1 hz2 rfl _ (Lib.byteCells acc) rfl hown 1 rfl rfl hml hmb hB.size ?_; intro v2 w4 hown5 _ hb5; have hB4 := hB.trans hb5; have k1' := (hb5.cell (p := ⟨b, o + k, none⟩) hbl).trans k1)
        refine (p1 _).mono ?_
        rintro e w2 ⟨rfl, b2⟩
        have hown6 : Own w.heap.size 5 v2 (Lib.byteCells (acc ++ [32])) w2 := by
          rw [← byteCells_snoc1]
          exact hown5.below b2
        have hB2 := bstep hB4 b2
        clear k1' k1
        go_wp2_with (at_builtin; refine wpList_appS rfl (.tmp 16) (.tmp 21) 67 9 rfl w.heap.size 5 i0 Tryz.underlying67 Tryz.underlying9 hi hz0 hz1 hz2 _ (acc ++ [32]) rfl hown6 rfl hcv hB2.size ?_; intro v' w3 hown4 hb4)
        go_roundw
        case rel =>
          refine ⟨k + 1, acc ++ [32] ++ Q.data.toList, by go_num, by omega, hB2.trans hb4, hown4, ?_, ?_⟩
          · have := HFL.out
            rwa [HX.out, ← H.out] at this
          · rw [Hid, HX.out, ← H.out]
        case measure => simp [intOf]; omega
    · obtain rfl : k = l.length := by omega
      have hcv := own_string Tryz.underlying67 Tryz.underlying5 Tryz.underlying9 hown
      go_wp2_with fail
      go_returns
      exact ⟨by rw [HQ.out, H.out, List.take_length]; rfl, hB⟩
theorem conv_one (x : Nat) (h : x < 10) (W : World) : (convert 67 9 (.slice (some ⟨W.heap.size, 0, none⟩) 1 1)).run Tryz.prog (W.alloc (.cells #[.int .u8 (48 + (x : Int))] 5)) = .ok (.string ⟨[UInt8.ofNat (48 + x)].toArray⟩) (W.alloc (.cells #[.int .u8 (48 + (x : Int))] 5)) := by
  have hc := conv_lit [UInt8.ofNat (48 + x)] W
  have e1 : Lib.byteCells [UInt8.ofNat (48 + x)] = [.int .u8 (48 + (x : Int))] := by simp [Lib.byteCells]; omega
  rw [e1] at hc
  exact hc
theorem conv_two (x y : Nat) (h : x < 10) (h2 : y < 10) (W : World) : (convert 67 9 (.slice (some ⟨W.heap.size, 0, none⟩) 2 2)).run Tryz.prog (W.alloc (.cells #[.int .u8 (48 + (x : Int)), .int .u8 (48 + (y : Int))] 5)) = .ok (.string ⟨[UInt8.ofNat (48 + x), UInt8.ofNat (48 + y)].toArray⟩) (W.alloc (.cells #[.int .u8 (48 + (x : Int)), .int .u8 (48 + (y : Int))] 5)) := by
  have hc := conv_lit [UInt8.ofNat (48 + x), UInt8.ofNat (48 + y)] W
  have e1 : Lib.byteCells [UInt8.ofNat (48 + x), UInt8.ofNat (48 + y)] = [.int .u8 (48 + (x : Int)), .int .u8 (48 + (y : Int))] := by simp [Lib.byteCells]; omega
  rw [e1] at hc
  exact hc
set_option maxHeartbeats 4000000 in
set_option maxRecDepth 100000 in
theorem rnumber_any (n : Int) (w : World) (h1 : -99 ≤ n) (h2 : n ≤ 99) :
    Calls Tryz.prog 112 #[.int .i64 n] w fun e w' => e = .returned (.string ⟨(numL n).toArray⟩) ∧ Below w.heap.size w w' := by
  obtain ⟨m, hm⟩ : ∃ m, n.natAbs = m := ⟨_, rfl⟩
  have hm99 : m ≤ 99 := by omega
  have HN : Hid (numL n = if n < 0 then 45 :: decL m else decL m) := by rw [Hid, ← hm]; rfl
  obtain ⟨x, hx⟩ : ∃ x, m / 10 = x := ⟨_, rfl⟩
  obtain ⟨y, hy⟩ : ∃ y, m % 10 = y := ⟨_, rfl⟩
  have HD : Hid (decL m = if m < 10 then [UInt8.ofNat (48 + m)] else [UInt8.ofNat (48 + x), UInt8.ofNat (48 + y)]) := by rw [Hid, ← hx, ← hy]; rfl
  have hx10 : x < 10 := by omega
  have hy10 : y < 10 := by omega
  have t1 : (m : Int).tmod 10 = (y : Int) := by rw [Int.tmod_eq_emod_of_nonneg (by omega)]; omega
  have t2 : (m : Int).tdiv 10 = (x : Int) := by rw [Int.tdiv_eq_ediv_of_nonneg (by omega)]; omega
  have c2 := conv_two x y hx10 hy10
  have g1 : (m : Int) % 10 = (y : Int) := by omega
  have g2 : (m : Int) / 10 = (x : Int) := by omega
  by_cases h0 : n < 0
  · have hn : n = -(m : Int) := by omega
    subst hn
    have HR : Hid (numL (-(m : Int)) = 45 :: decL m) := by rw [Hid, HN.out, if_pos h0]
    have d0 : decide (-(m : Int) < 0) = true := decide_eq_true h0
    have hmx : max (-(m : Int)) (-99) = -(m : Int) := by omega
    clear hm hx hy HN
    by_cases h10 : m < 10
    · have c1 := conv_one m h10
      have HE : Hid (decL m = [UInt8.ofNat (48 + m)]) := by rw [Hid, HD.out, if_pos h10]
      have d1 : decide ((m : Int) < 10) = true := decide_eq_true (by omega)
      go_enter Tryz.func112, Tryz.ntmps112
      go_wp2_with fail
      go_returns
      refine ⟨congrArg (fun b => Ending.returned (Value.string b)) (ba_ext ?_), (Below.refl _ _).alloc (Nat.le_refl _) _⟩
      rw [HR.out, HE.out]
      simp
    · have HE : Hid (decL m = [UInt8.ofNat (48 + x), UInt8.ofNat (48 + y)]) := by rw [Hid, HD.out, if_neg h10]
      have d1 : decide ((m : Int) < 10) = false := decide_eq_false (by omega)
      go_enter Tryz.func112, Tryz.ntmps112
      go_wp2_with fail
      go_returns
      refine ⟨congrArg (fun b => Ending.returned (Value.string b)) (ba_ext ?_), (Below.refl _ _).alloc (Nat.le_refl _) _⟩
      rw [HR.out, HE.out]
      simp
  · have hn : n = (m : Int) := by omega
    subst hn
    have HR : Hid (numL (m : Int) = decL m) := by rw [Hid, HN.out, if_neg h0]
    have d0 : decide ((m : Int) < 0) = false := decide_eq_false h0
    clear hm hx hy HN
    by_cases h10 : m < 10
    · have c1 := conv_one m h10
      have HE : Hid (decL m = [UInt8.ofNat (48 + m)]) := by rw [Hid, HD.out, if_pos h10]
      have d1 : decide ((m : Int) < 10) = true := decide_eq_true (by omega)
      go_enter Tryz.func112, Tryz.ntmps112
      go_wp2_with fail
      go_returns
      refine ⟨congrArg (fun b => Ending.returned (Value.string b)) (ba_ext ?_), (Below.refl _ _).alloc (Nat.le_refl _) _⟩
      rw [HR.out, HE.out]
      simp
    · have HE : Hid (decL m = [UInt8.ofNat (48 + x), UInt8.ofNat (48 + y)]) := by rw [Hid, HD.out, if_neg h10]
      have d1 : decide ((m : Int) < 10) = false := decide_eq_false (by omega)
      go_enter Tryz.func112, Tryz.ntmps112
      go_wp2_with fail
      go_returns
      refine ⟨congrArg (fun b => Ending.returned (Value.string b)) (ba_ext ?_), (Below.refl _ _).alloc (Nat.le_refl _) _⟩
      rw [HR.out, HE.out]
      simp

/- Walks of the reference of layer 33: test, RuleLine. -/
open Go.RowKit
set_option linter.unusedVariables false

theorem numL_len3 {n : Int} (h : -99 ≤ n ∧ n ≤ 99) : (numL n).length ≤ 3 := by
  unfold numL decL
  split <;> split <;> simp
set_option maxHeartbeats 16000000 in
set_option maxRecDepth 100000 in
theorem rtest_any (n : Int) (s b1 b2 : Bool) (g r : List Bs) (AT AY : Option Addr) (cT cY : Nat) (w : World) (hT : RowAt w AT (g.map S)) (hY : RowAt w AY (r.map S)) (h1 : -99 ≤ n) (h2 : n ≤ 99) (hg : Few g) (hr : Few r) :
    Calls Tryz.prog 91 #[.agg #[.int .i64 n, .bool s, .bool b1, .bool b2, .slice AT g.length cT, .slice AY r.length cY]] w fun e w' => e = .returned (.string ⟨(testL ⟨n, s, b1, b2, g, r⟩).toArray⟩) ∧ Below w.heap.size w w' := by
  obtain ⟨W0, hW0⟩ : ∃ W0, W0 = w.alloc (.cells #[.int .i64 n, .bool s, .bool b1, .bool b2, .slice AT g.length cT, .slice AY r.length cY] 79) := ⟨_, rfl⟩
  have bA : Below w.heap.size w W0 := by rw [hW0]; exact (Below.refl _ _).alloc (Nat.le_refl _) _
  have hr0 : W0.heap[w.heap.size]? = some (.cells #[.int .i64 n, .bool s, .bool b1, .bool b2, .slice AT g.length cT, .slice AY r.length cY] 79 (0, 0)) := by rw [hW0]; exact heap_alloc_new w _
  have hz0 : w.heap.size < W0.heap.size := lt_of_block hr0
  have p1 := fun (W : World) => rnumber_any n W h1 h2
  have p2 := fun (W : World) (b : Below W0.heap.size W0 W) => rquoted_any AT cT g W (hT.below (bstep bA b)) hg
  have p3 := fun (W : World) (b : Below W0.heap.size W0 W) => rquoted_any AY cY r W (hY.below (bstep bA b)) hr
  have HB : Hid (∀ W3, Below W0.heap.size W0 W3 → W3.heap[w.heap.size]? = some (.cells #[.int .i64 n, .bool s, .bool b1, .bool b2, .slice AT g.length cT, .slice AY r.length cY] 79 (0, 0))) := fun W3 b3 => (b3.block _ hz0).trans hr0
  have hl1 := numL_len3 ⟨h1, h2⟩
  have hl2 := quoted_len hg
  have hl3 := quoted_len hr
  have HK : Hid (testL ⟨n, s, b1, b2, g, r⟩ = (40 :: (optL b1 [33] ++ numL n ++ optL s [42] ++ optL b2 [67])) ++ 32 :: quotedL g ++ optL (!r.isEmpty) ([32, 124, 32] ++ quotedL r) ++ [41]) := rfl
  obtain ⟨N, hN⟩ : ∃ N : ByteArray, (⟨(numL n).toArray⟩ : ByteArray) = N := ⟨_, rfl⟩
  obtain ⟨Q1, hQ1⟩ : ∃ N : ByteArray, (⟨(quotedL g).toArray⟩ : ByteArray) = N := ⟨_, rfl⟩
  obtain ⟨Q2, hQ2⟩ : ∃ N : ByteArray, (⟨(quotedL r).toArray⟩ : ByteArray) = N := ⟨_, rfl⟩
  have e1 : numL n = N.data.toList := by rw [← hN]
  have e2 : quotedL g = Q1.data.toList := by rw [← hQ1]
  have e3 : quotedL r = Q2.data.toList := by rw [← hQ2]
  rw [hN] at p1
  rw [hQ1] at p2
  rw [hQ2] at p3
  rw [e1, e2, e3] at HK
  rw [e1, ← Lib.size_eq] at hl1
  rw [e2, ← Lib.size_eq] at hl2
  rw [e3, ← Lib.size_eq] at hl3
  generalize testL ⟨n, s, b1, b2, g, r⟩ = R at *
  have P1 := Lib.hid p1
  have P2 := Lib.hid p2
  have P3 := Lib.hid p3
  have HW0 := Lib.hid hW0
  clear p1 p2 p3 hN hQ1 hQ2 e1 e2 e3 hT hY hr0 hW0
  have hre : r.length = 0 ∨ 0 < r.length := by omega
  rcases hre with hre | hre
  case' inl =>
    have HRE : Hid (optL (!r.isEmpty) ([32, 124, 32] ++ Q2.data.toList) = []) := by rw [List.eq_nil_of_length_eq_zero hre]; rfl
    have dre : decide (0 < r.length) = false := decide_eq_false (by omega)
    clear hre
  case' inr =>
    have HRE : Hid (optL (!r.isEmpty) ([32, 124, 32] ++ Q2.data.toList) = [32, 124, 32] ++ Q2.data.toList) := by
      cases r with
      | nil => simp at hre
      | cons a l => rfl
    have dre : decide (0 < r.length) = true := decide_eq_true hre
    clear hre
  all_goals
    have HKR : Hid (∀ X, optL (!r.isEmpty) ([32, 124, 32] ++ Q2.data.toList) = X → R = (40 :: (optL b1 [33] ++ N.data.toList ++ optL s [42] ++ optL b2 [67])) ++ 32 :: Q1.data.toList ++ X ++ [41]) := fun X hX => by rw [HK.out, hX]
    have HR := Lib.hid (HKR.out _ HRE.out)
    clear HKR HK HRE
    cases b1 <;> cases s <;> cases b2
    all_goals
      go_enter Tryz.func91, Tryz.ntmps91
      go_wp2_with fail
      rw [← HW0.out]
      refine (P1.out _).mono ?_
      rintro e w1 ⟨rfl, c1⟩
      have kk := HB.out w1 c1
      have i1 := cell_of_row w1 w.heap.size 1 _ _ (0, 0) kk
      have i3 := cell_of_row w1 w.heap.size 3 _ _ (0, 0) kk
      have i4 := cell_of_row w1 w.heap.size 4 _ _ (0, 0) kk
      simp at i1 i3 i4
      clear kk
      go_wp2_with fail
      refine (P2.out _ c1).mono ?_
      rintro e w2 ⟨rfl, c2⟩
      have c12 := bstep c1 c2
      have kk := HB.out w2 c12
      have i5 := cell_of_row w2 w.heap.size 5 _ _ (0, 0) kk
      simp at i5
      clear kk i1 i3 i4
      go_wp2_with fail
      first
        | (refine (P3.out _ c12).mono ?_
           rintro e w3 ⟨rfl, c3⟩
           go_wp2_with fail
           go_returns
           refine ⟨congrArg (fun b => Ending.returned (Value.string b)) (ba_ext ?_), bstep bA (bstep c12 c3)⟩
           rw [HR.out]
           simp [optL])
        | (go_returns
           refine ⟨congrArg (fun b => Ending.returned (Value.string b)) (ba_ext ?_), bstep bA c12⟩
           rw [HR.out]
           simp [optL])
theorem testL_len3 {t : Tst} (h : tstOk t = true) : (testL t).length ≤ 10100 := by
  obtain ⟨h1, h2, h3, h4, h5, h6⟩ := tstOk_parts h
  have q1 := quoted_len (few_of_tags h4)
  have q2 := quoted_len (few_of_tags h5)
  have q3 := numL_len3 h1
  have o1 := optL_len t.not_ [33]
  have o2 := optL_len t.scan [42]
  have o3 := optL_len t.careful [67]
  have o4 := optL_len (!t.barrier.isEmpty) ([32, 124, 32] ++ quotedL t.barrier)
  unfold testL hdrL
  simp only [List.length_append, List.length_cons, List.length_nil] at *
  omega
theorem ruleL_take (H : Bs) (ts : List Tst) (k : Nat) (h : k < ts.length) : H ++ (ts.take (k + 1)).flatMap (fun t => 32 :: testL t) = H ++ (ts.take k).flatMap (fun t => 32 :: testL t) ++ [32] ++ testL ts[k] := by
  rw [List.take_succ_eq_append_getElem h, List.flatMap_append]
  simp
set_option maxHeartbeats 16000000 in
set_option maxRecDepth 100000 in
theorem rrule_any (r : Rul) (A1 A2 : Option Addr) (c1 c2 : Nat) (w : World) (hV : RulV w (.slice A1 r.target.length c1, .slice A2 r.tests.length c2) r) (hok : rulOk r = true) :
    Calls Tryz.prog 55 #[.agg #[.int .i64 r.op, .slice A1 r.target.length c1, .slice A2 r.tests.length c2, .bool r.uns]] w fun e w' => e = .returned (.string ⟨(ruleL r).toArray⟩) ∧ Below w.heap.size w w' := by
  obtain ⟨o1, o2, o3, o4, o5⟩ := rulOk_parts hok
  obtain ⟨h1, h2⟩ := hV
  obtain ⟨A', c', e', hc', hr1⟩ := h1
  cases e'
  obtain ⟨W0, hW0⟩ : ∃ W0, W0 = w.alloc (.cells #[.int .i64 r.op, .slice A1 r.target.length c1, .slice A2 r.tests.length c2, .bool r.uns] 42) := ⟨_, rfl⟩
  have bA : Below w.heap.size w W0 := by rw [hW0]; exact (Below.refl _ _).alloc (Nat.le_refl _) _
  have hr0 : W0.heap[w.heap.size]? = some (.cells #[.int .i64 r.op, .slice A1 r.target.length c1, .slice A2 r.tests.length c2, .bool r.uns] 42 (0, 0)) := by rw [hW0]; exact heap_alloc_new w _
  have hz0 : w.heap.size < W0.heap.size := lt_of_block hr0
  have p1 := rquoted_any A1 c1 r.target W0 (hr1.below bA) (few_of_tags o3)
  have HB : Hid (∀ W3, Below W0.heap.size W0 W3 → W3.heap[w.heap.size]? = some (.cells #[.int .i64 r.op, .slice A1 r.target.length c1, .slice A2 r.tests.length c2, .bool r.uns] 42 (0, 0))) := fun W3 b3 => (b3.block _ hz0).trans hr0
  have H2 := Lib.hid h2
  have hq := quoted_len (few_of_tags o3)
  obtain ⟨Q1, hQ1⟩ : ∃ N : ByteArray, (⟨(quotedL r.target).toArray⟩ : ByteArray) = N := ⟨_, rfl⟩
  have e1 : quotedL r.target = Q1.data.toList := by rw [← hQ1]
  rw [hQ1] at p1
  rw [e1, ← Lib.size_eq] at hq
  have HR : Hid (ruleL r = headL r ++ 32 :: Q1.data.toList ++ r.tests.flatMap fun t => 32 :: testL t) := by rw [Hid, ← e1]; rfl
  have HH : Hid (headL r = (if r.op = 2 then remB else selB) ++ optL r.uns [33]) := rfl
  have HW0 := Lib.hid hW0
  have HO5 := Lib.hid o5
  have hlen : r.tests.length ≤ 10 := o4
  clear hr1 h2 hc' hr0 hQ1 e1 hW0 o2 o3 o4 o5 hok
  obtain ⟨op, target, tests, uns⟩ := r
  dsimp only at *
  generalize ruleL ⟨op, target, tests, uns⟩ = R at *
  obtain ⟨HD, hHD⟩ : ∃ X : Bs, headL ⟨op, target, tests, uns⟩ ++ 32 :: Q1.data.toList = X := ⟨_, rfl⟩
  have HDX := Lib.hid hHD
  rw [hHD] at HR
  have hDl : HD.length ≤ 5020 := by
    rw [← hHD, HH.out, List.length_append, List.length_append, List.length_cons, ← Lib.size_eq]
    have := optL_len uns [33]
    have : (if op = 2 then remB else selB).length = 6 := by split <;> rfl
    simp only [List.length_singleton] at *
    omega
  clear hHD
  have hcase : (op = 1 ∧ (op == 2) = false) ∨ (op = 2 ∧ (op == 2) = true) := by rcases o1 with rfl | rfl <;> simp
  clear o1
  rcases hcase with ⟨rfl, hop⟩ | ⟨rfl, hop⟩
  all_goals
    cases uns
    all_goals
      go_enter Tryz.func55, Tryz.ntmps55
      go_wp2_with fail
      rw [← HW0.out]
      refine p1.mono ?_
      rintro e w1 ⟨rfl, c1⟩
      have bW := bstep bA c1
      go_wp2_with fail
      go_loopw [3, 4] (fun sv i wr => ∃ (k : Nat) (X : ByteArray), i = .int .i64 k ∧ sv = .string X ∧ k ≤ tests.length ∧ Below w1.heap.size w1 wr ∧ X.size ≤ 5020 + 10101 * k ∧ Hid (X.data.toList = HD ++ (tests.take k).flatMap (fun t => 32 :: testL t))) (fun _ i _ => tests.length - (intOf i).toNat)
      case atStart =>
        have hXD : ∀ X : ByteArray, X.data.toList = HD → X.size ≤ 5020 + 10101 * 0 := fun X h => by rw [Lib.size_eq, h]; omega
        refine ⟨0, _, rfl, rfl, by omega, Below.refl _ _, hXD _ ?_, ?_⟩
        · rw [← HDX.out, HH.out]; simp [remB, selB, optL]
        · rw [Hid, ← HDX.out, HH.out]; simp [remB, selB, optL]
      case round =>
        obtain ⟨k, X, rfl, rfl, hk, hB, hXs, HX⟩ := hrel
        have kk := HB.out wr (bstep c1 hB)
        have i2 := cell_of_row wr w.heap.size 2 _ _ (0, 0) kk
        simp at i2
        clear kk
        by_cases hlt : k < tests.length
        · have bR := bstep bW hB
          obtain ⟨b, o, AT, cT, AY, cY, rfl, hbl, f0, f1, f2, f3, f4, f5, hRT, hRY⟩ := H2.out.at hlt
          have hok := HO5.out tests[k] (List.getElem_mem _)
          obtain ⟨g1, g2, g3, g4, g5, g6⟩ := tstOk_parts hok
          have hl := testL_len3 hok
          have HN := Lib.hid (ruleL_take HD tests k hlt)
          generalize tests[k] = tt at *
          have q0 := (bR.cell (p := ⟨b, o + k * 6, none⟩) hbl).trans f0
          have q1 := (bR.cell (p := ⟨b, o + k * 6 + 1, none⟩) hbl).trans f1
          have q2 := (bR.cell (p := ⟨b, o + k * 6 + 2, none⟩) hbl).trans f2
          have q3 := (bR.cell (p := ⟨b, o + k * 6 + 3, none⟩) hbl).trans f3
          have q4 := (bR.cell (p := ⟨b, o + k * 6 + 4, none⟩) hbl).trans f4
          have q5 := (bR.cell (p := ⟨b, o + k * 6 + 5, none⟩) hbl).trans f5
          have p5 := rtest_any tt.at_ tt.scan tt.not_ tt.careful tt.tags tt.barrier AT AY cT cY wr (hRT.below bR) (hRY.below bR) g1.1 g1.2 (few_of_tags g4) (few_of_tags g5)
          have e5 : (⟨tt.at_, tt.scan, tt.not_, tt.careful, tt.tags, tt.barrier⟩ : Tst) = tt := rfl
          rw [e5] at p5
          obtain ⟨TL, hTL⟩ : ∃ N : ByteArray, (⟨(testL tt).toArray⟩ : ByteArray) = N := ⟨_, rfl⟩
          have e6 : testL tt = TL.data.toList := by rw [← hTL]
          rw [hTL] at p5
          rw [e6, ← Lib.size_eq] at hl
          rw [e6] at HN
          have k0 : (0 : Int) ≤ (k : Int) := by omega
          have kl : (k : Int) < (tests.length : Int) := by omega
          have hx9 : X.size ≤ 200000 := by omega
          clear f0 f1 f2 f3 f4 f5 hRT hRY e5 g1 g2 g3 g4 g5 g6 hok hTL e6
          go_wp2_with fail
          refine p5.mono ?_
          rintro e w5 ⟨rfl, b5⟩
          go_wp2_with fail
          go_roundw
          case rel =>
            refine ⟨k + 1, _, by go_num, rfl, by omega, bstep hB b5, ?_, ?_⟩
            · have e32 : (⟨#[32]⟩ : ByteArray).size = 1 := rfl
              simp
              omega
            · rw [Hid, HN.out, ← HX.out]; simp
          case measure => simp [intOf]; omega
        · obtain rfl : k = tests.length := by omega
          have HX2 : Hid (R = X.data.toList) := by rw [Hid, HR.out, HX.out, List.take_length]
          go_wp2_with fail
          go_returns
          exact ⟨by rw [HX2.out]; rfl, bstep bW hB⟩

/- Walks of the reference of layer 33: Text, RuleText. -/
open Go.RowKit
set_option linter.unusedVariables false

theorem textC_len3 {c : Coh} (h : cohOk c = true) : (textC c).length ≤ 151000 := by
  obtain ⟨h1, h2, h3⟩ := cohOk_parts h
  unfold tagOk at h1
  simp only [Bool.and_eq_true, decide_eq_true_eq] at h1
  have q := quote_len c.form
  have key : ∀ rs : List (List Bs), (∀ r ∈ rs, tagsOk 1 20 r = true) → (rs.flatMap fun r => 9 :: (quotedL r ++ [10])).length ≤ rs.length * 5002 := by
    intro rs
    induction rs with
    | nil => intro _; simp
    | cons r rs ih =>
      intro h
      have := ih (fun x hx => h x (List.mem_cons_of_mem _ hx))
      have := quoted_len (few_of_tags (h r List.mem_cons_self))
      rw [List.flatMap_cons, List.length_append, List.length_cons, List.length_append, List.length_cons (a := r), Nat.add_mul]
      simp only [List.length_singleton]
      omega
  have := key c.reads h3
  have : c.reads.length * 5002 ≤ 30 * 5002 := Nat.mul_le_mul h2 (Nat.le_refl _)
  unfold textC
  rw [List.length_append, List.length_cons]
  omega
theorem textL_part {l : List Coh} (h : ∀ c ∈ l, cohOk c = true) (k : Nat) (hk : k ≤ l.length) : (textL (l.take k)).length ≤ k * 151000 := by
  induction k with
  | zero => simp [textL]
  | succ k ih =>
    have hlt : k < l.length := by omega
    rw [List.take_succ_eq_append_getElem hlt, textL_snoc, List.length_append, Nat.add_mul]
    have := textC_len3 (h _ (List.getElem_mem hlt))
    have := ih (by omega)
    omega
theorem textC_take (c : Coh) (j : Nat) (hj : j < c.reads.length) : (c.reads.take (j + 1)).flatMap (fun r => 9 :: (quotedL r ++ [10])) = (c.reads.take j).flatMap (fun r => 9 :: (quotedL r ++ [10])) ++ [9] ++ quotedL c.reads[j] ++ [10] := by
  rw [List.take_succ_eq_append_getElem hj, List.flatMap_append]
  simp
theorem reads_part {rs : List (List Bs)} (h : ∀ r ∈ rs, tagsOk 1 20 r = true) (k : Nat) (hk : k ≤ rs.length) : ((rs.take k).flatMap fun r => 9 :: (quotedL r ++ [10])).length ≤ k * 5002 := by
  induction k with
  | zero => simp
  | succ k ih =>
    have hlt : k < rs.length := by omega
    have := quoted_len (few_of_tags (h _ (List.getElem_mem hlt)))
    have := ih (by omega)
    rw [List.take_succ_eq_append_getElem hlt, List.flatMap_append, List.length_append, Nat.add_mul, List.flatMap_cons, List.flatMap_nil, List.append_nil, List.length_cons, List.length_append, List.length_singleton]
    omega
set_option maxHeartbeats 16000000 in
set_option maxRecDepth 100000 in
theorem rtextL_any (A : Option Addr) (c : Nat) (l : List Coh) (w : World) (hV : CohsV w (.slice A l.length c) l) (hl : Sized l) :
    Calls Tryz.prog 18 #[.slice A l.length c] w fun e w' => e = .returned (.tuple #[.string ⟨(cohsText l).1.toArray⟩, .int .i64 ((cohsText l).2 : Int)]) ∧ Below w.heap.size w w' := by
  obtain ⟨i0, hi, hz0, hz1, hz2⟩ := info_parts byteInfo
  have p1 := rvalidL_any A c l w hV hl
  have HV := Lib.hid hV
  clear hV
  cases hok : cohsOk l with
  | false =>
    have HX : Hid (cohsText l = ([], 1)) := by unfold Hid cohsText; rw [hok]; rfl
    rw [hok] at p1
    clear hok
    go_enter Tryz.func18, Tryz.ntmps18
    go_wp2_with fail
    refine p1.mono ?_
    rintro e w1 ⟨rfl, b1⟩
    go_wp2_with fail
    go_returns
    exact ⟨by rw [HX.out]; rfl, b1⟩
  | true =>
    have HX : Hid (cohsText l = if 16384 < (textL l).length then ([], 2) else (textL l, 0)) := by unfold Hid cohsText; rw [hok]; rfl
    obtain ⟨hl200, hall⟩ := cohsOk_parts hok
    have HALL := Lib.hid hall
    rw [hok] at p1
    clear hok hall hl
    go_enter Tryz.func18, Tryz.ntmps18
    go_wp2_with fail
    refine p1.mono ?_
    rintro e w1 ⟨rfl, b1⟩
    clear p1
    go_wp2_with fail
    go_loopw [4, 5] (fun v i wr => ∃ (k : Nat), i = .int .i64 k ∧ k ≤ l.length ∧ Below w1.heap.size w1 wr ∧ Own w1.heap.size 5 v (Lib.byteCells (textL (l.take k))) wr) (fun _ i _ => l.length - (intOf i).toNat)
    case atStart => exact ⟨0, rfl, by omega, Below.refl _ _, Own.nil _ _ _⟩
    case round =>
      obtain ⟨k, rfl, hk, hB, hown⟩ := hrel
      by_cases hlt : k < l.length
      · obtain ⟨b, o, x, rfl, hbl, hc1, hc2, hr⟩ := HV.out.at hlt
        have hok := HALL.out l[k] (List.getElem_mem _)
        have hpl := textL_part HALL.out k (by omega)
        have HN : Hid (textL (l.take (k + 1)) = textL (l.take k) ++ textC l[k]) := by rw [Hid, List.take_succ_eq_append_getElem hlt, textL_snoc]
        obtain ⟨cc, hcc⟩ : ∃ c, l[k] = c := ⟨_, rfl⟩
        rw [hcc] at hc1 hr hok HN
        clear hcc
        obtain ⟨h30a, h30, htg⟩ := cohOk_parts hok
        have hf40 : cc.form.length ≤ 40 := by
          unfold tagOk at h30a
          simp only [Bool.and_eq_true, decide_eq_true_eq] at h30a
          exact h30a.2
        have HTG := Lib.hid htg
        have hkb : k * 151000 ≤ 200 * 151000 := Nat.mul_le_mul (by omega) (Nat.le_refl _)
        have hacc : (textL (l.take k)).length ≤ 40000000 := by omega
        generalize textL (l.take k) = acc at *
        have bR := bstep b1 hB
        obtain ⟨Ax, cx, rfl⟩ := hr.form
        have k1 : wr.cell? ⟨b, o + k * 2, none⟩ = some (.string ⟨cc.form.toArray⟩) := (bR.cell (p := ⟨b, o + k * 2, none⟩) hbl).trans hc1
        have HC2 : Hid (∀ W, Below w1.heap.size w1 W → W.cell? ⟨b, o + k * 2 + 1, none⟩ = some (.slice Ax cc.reads.length cx)) := fun W hW => ((bstep b1 hW).cell (p := ⟨b, o + k * 2 + 1, none⟩) hbl).trans hc2
        have HRD := Lib.hid hr
        have k0 : (0 : Int) ≤ (k : Int) := by omega
        have kl : (k : Int) < (l.length : Int) := by omega
        have p2 := rquote_any ⟨cc.form.toArray⟩ wr (by rw [Lib.size_eq]; show cc.form.length ≤ _; omega)
        have e1 : (⟨cc.form.toArray⟩ : ByteArray).data.toList = cc.form := rfl
        rw [e1] at p2
        have hql := quote_len cc.form
        obtain ⟨Q, hQ⟩ : ∃ N : ByteArray, (⟨(quoteL cc.form).toArray⟩ : ByteArray) = N := ⟨_, rfl⟩
        have e2 : quoteL cc.form = Q.data.toList := by rw [← hQ]
        rw [hQ] at p2
        rw [e2, ← Lib.size_eq] at hql
        have HTC : Hid (textC cc = Q.data.toList ++ 10 :: (cc.reads.flatMap fun r => 9 :: (quotedL r ++ [10]))) := by rw [Hid, ← e2]; rfl
        have hQs : Q.size ≤ 202 := by omega
        have hcv : acc.length + Q.size ≤ 140737488355328 := by omega
        have hml : (Lib.byteCells (acc ++ Q.data.toList)).length + 1 ≤ maxLen := by rw [Lib.byteCells_length, List.length_append, ← Lib.size_eq]; unfold maxLen; omega
        have hmb : ((Lib.byteCells (acc ++ Q.data.toList)).length + 1) * 1 ≤ 140737488355328 := by rw [Lib.byteCells_length, List.length_append, ← Lib.size_eq]; omega
        clear hc1 hc2 hr hok e1 hQ e2 hql h30a htg hf40 hpl hkb
        go_wp2_with fail
        refine p2.mono ?_
        rintro e w2 ⟨rfl, b2⟩
        have hown2 := hown.below b2
        have hB2 := bstep hB b2
        go_wp2_with (first | (at_builtin; refine wpList_appS rfl (.tmp 16) (.tmp 22) 67 9 rfl w1.heap.size 5 i0 Tryz.underlying67 Tryz.underlying9 hi hz0 hz1 hz2 _ acc rfl hown2 rfl hcv hB2.size ?_; intro v3 w3 hown3 hb3; have hB3 := hB2.trans hb3) | (at_builtin; refine wpList_app1 rfl (.tmp 24) (.tmp 25) 67 rfl w1.heap.size i0 _ 1 Tryz.underlying67 hi hz0 hz1 hz2 rfl _ (Lib.byteCells (acc ++ Q.data.toList)) rfl hown3 1 rfl rfl hml hmb hB3.size ?_; intro v4 w4 hown4 _ hb4; have hB4 := hB3.trans hb4))
        have hown5 : Own w1.heap.size 5 v4 (Lib.byteCells (acc ++ Q.data.toList ++ [10])) w4 := by rw [← byteCells_snoc1]; exact hown4
        have HOW := Lib.hid hown5
        have HB4 := Lib.hid hB4
        clear hown hown2 hown3 hown4 hown5 hB2 hB3 k1 p2 b2 hb3 hb4 hml hmb hcv hB4
        obtain ⟨wo, hwo⟩ : ∃ W, W = wr := ⟨_, rfl⟩
        subst hwo
        go_loopw [4, 6] (fun v j wr => ∃ (m : Nat), j = .int .i64 m ∧ m ≤ cc.reads.length ∧ Below w1.heap.size w1 wr ∧ Own w1.heap.size 5 v (Lib.byteCells (acc ++ Q.data.toList ++ [10] ++ (cc.reads.take m).flatMap (fun r => 9 :: (quotedL r ++ [10])))) wr) (fun _ j _ => cc.reads.length - (intOf j).toNat)
        case atStart => exact ⟨0, rfl, by omega, HB4.out, by simpa using HOW.out⟩
        case round =>
          obtain ⟨m, rfl, hm, hB, hown⟩ := hrel
          have k2 := HC2.out wr hB
          have bW := bstep b1 hB
          by_cases hlt2 : m < cc.reads.length
          · obtain ⟨b', o', y, rfl, hbl', hc3, hy⟩ := HRD.out.at hlt2
            have hpr := reads_part HTG.out m (by omega)
            have hfw := few_of_tags (HTG.out cc.reads[m] (List.getElem_mem _))
            have HN2 := Lib.hid (textC_take cc m hlt2)
            generalize cc.reads[m] = rr at *
            have hmb2 : m * 5002 ≤ 30 * 5002 := Nat.mul_le_mul (by omega) (Nat.le_refl _)
            obtain ⟨B0, hB0⟩ : ∃ B0 : Bs, acc ++ Q.data.toList ++ [10] ++ (cc.reads.take m).flatMap (fun r => 9 :: (quotedL r ++ [10])) = B0 := ⟨_, rfl⟩
            have hB0l : B0.length ≤ 41000000 := by
              rw [← hB0]
              simp only [List.length_append, List.length_singleton, ← Lib.size_eq]
              omega
            have HB0 := Lib.hid hB0
            rw [hB0] at hown
            obtain ⟨Ay, cy, rfl, hcy, hry⟩ := hy
            have k3 : wr.cell? ⟨b', o' + m, none⟩ = some (.slice Ay rr.length cy) := (bW.cell (p := ⟨b', o' + m, none⟩) hbl').trans hc3
            have P5 := fun (W : World) (hW : Below w1.heap.size w1 W) => rquoted_any Ay cy rr W (hry.below (bstep b1 hW)) hfw
            have hql := quoted_len hfw
            obtain ⟨Q2, hQ2⟩ : ∃ N : ByteArray, (⟨(quotedL rr).toArray⟩ : ByteArray) = N := ⟨_, rfl⟩
            have e2 : quotedL rr = Q2.data.toList := by rw [← hQ2]
            rw [hQ2] at P5
            rw [e2, ← Lib.size_eq] at hql
            rw [e2] at HN2
            have m0 : (0 : Int) ≤ (m : Int) := by omega
            have ml : (m : Int) < (cc.reads.length : Int) := by omega
            have hml1 : (Lib.byteCells B0).length + 1 ≤ maxLen := by rw [Lib.byteCells_length]; unfold maxLen; omega
            have hmb1 : ((Lib.byteCells B0).length + 1) * 1 ≤ 140737488355328 := by rw [Lib.byteCells_length]; omega
            have hcv : (B0 ++ [9]).length + Q2.size ≤ 140737488355328 := by rw [List.length_append, List.length_singleton]; omega
            have hml2 : (Lib.byteCells (B0 ++ [9] ++ Q2.data.toList)).length + 1 ≤ maxLen := by rw [Lib.byteCells_length, List.length_append, List.length_append, ← Lib.size_eq, List.length_singleton]; unfold maxLen; omega
            have hmb3 : ((Lib.byteCells (B0 ++ [9] ++ Q2.data.toList)).length + 1) * 1 ≤ 140737488355328 := by rw [Lib.byteCells_length, List.length_append, List.length_append, ← Lib.size_eq, List.length_singleton]; omega
            have hbw1 : b < w1.heap.size := by have := b1.size; omega
            have hbw2 : b' < w1.heap.size := by have := b1.size; omega
            clear hB0 hQ2 e2 hc3 hry hcy hpr hmb2
            go_wp2_with (at_builtin; refine wpList_app1 rfl (.tmp 37) (.tmp 38) 67 rfl w1.heap.size i0 _ 1 Tryz.underlying67 hi hz0 hz1 hz2 rfl _ (Lib.byteCells B0) rfl hown 1 rfl rfl hml1 hmb1 hB.size ?_; intro v5 w5 hown5 _ hb5; have hB5 := hB.trans hb5; have k4 := (hb5.cell (p := ⟨b, o + k * 2 + 1, none⟩) hbw1).trans k2; have k5 := (hb5.cell (p := ⟨b', o' + m, none⟩) hbw2).trans k3)
            refine (P5 _ hB5).mono ?_
            rintro e w6 ⟨rfl, b6⟩
            have hown6 : Own w1.heap.size 5 v5 (Lib.byteCells (B0 ++ [9])) w6 := by rw [← byteCells_snoc1]; exact hown5.below b6
            have hB6 := bstep hB5 b6
            clear k2 k3 k4 k5
            go_wp2_with (first | (at_builtin; refine wpList_appS rfl (.tmp 40) (.tmp 50) 67 9 rfl w1.heap.size 5 i0 Tryz.underlying67 Tryz.underlying9 hi hz0 hz1 hz2 _ (B0 ++ [9]) rfl hown6 rfl hcv hB6.size ?_; intro v7 w7 hown7 hb7; have hB7 := hB6.trans hb7) | (at_builtin; refine wpList_app1 rfl (.tmp 52) (.tmp 53) 67 rfl w1.heap.size i0 _ 1 Tryz.underlying67 hi hz0 hz1 hz2 rfl _ (Lib.byteCells (B0 ++ [9] ++ Q2.data.toList)) rfl hown7 1 rfl rfl hml2 hmb3 hB7.size ?_; intro v8 w8 hown8 _ hb8; have hB8 := hB7.trans hb8))
            go_roundw
            case rel =>
              refine ⟨m + 1, by go_num, by omega, hB8, ?_⟩
              have e : acc ++ Q.data.toList ++ [10] ++ (cc.reads.take (m + 1)).flatMap (fun r => 9 :: (quotedL r ++ [10])) = B0 ++ [9] ++ Q2.data.toList ++ [10] := by
                rw [HN2.out, ← HB0.out]; simp
              rw [e, ← byteCells_snoc1]
              exact hown8
            case measure => simp [intOf]; omega
          · obtain rfl : m = cc.reads.length := by omega
            rw [List.take_length] at hown
            have HO := Lib.hid hown
            clear hown
            go_wp2_with fail
            go_roundw
            case rel =>
              refine ⟨k + 1, by go_num, by omega, hB, ?_⟩
              rw [HN.out, HTC.out]
              have := HO.out
              simpa using this
            case measure => simp [intOf]; omega
      · obtain rfl : k = l.length := by omega
        rw [List.take_length] at hown
        have hcv := own_string Tryz.underlying67 Tryz.underlying5 Tryz.underlying9 hown
        obtain ⟨At, ct, rfl, hct, hrt⟩ := hown.row.to (n := (textL l).length) (by rw [Lib.byteCells_length])
        have HXX := HX
        clear hown hrt
        generalize textL l = TL at *
        by_cases hbig : 16384 < TL.length
        · have d1 : decide ((16384 : Int) < (TL.length : Int)) = true := decide_eq_true (by omega)
          have HX3 : Hid (cohsText l = ([], 2)) := by rw [Hid, HXX.out, if_pos hbig]
          go_wp2_with fail
          go_returns
          exact ⟨by rw [HX3.out]; rfl, bstep b1 hB⟩
        · have d1 : decide ((16384 : Int) < (TL.length : Int)) = false := decide_eq_false (by omega)
          have HX3 : Hid (cohsText l = (TL, 0)) := by rw [Hid, HXX.out, if_neg hbig]
          go_wp2_with fail
          go_returns
          exact ⟨by rw [HX3.out]; rfl, bstep b1 hB⟩
theorem rulesL_part {l : List Rul} (h : ∀ r ∈ l, rulOk r = true) (k : Nat) (hk : k ≤ l.length) : (rulesL (l.take k)).length ≤ k * 200001 := by
  induction k with
  | zero => simp [rulesL]
  | succ k ih =>
    have hlt : k < l.length := by omega
    have := ruleL_len (h _ (List.getElem_mem hlt))
    have := ih (by omega)
    unfold rulesL at *
    rw [List.take_succ_eq_append_getElem hlt, List.flatMap_append, List.length_append, Nat.add_mul, List.flatMap_cons, List.flatMap_nil, List.append_nil, List.length_append, List.length_singleton]
    omega
theorem rulesL_take {l : List Rul} {k : Nat} (hlt : k < l.length) : rulesL (l.take (k + 1)) = rulesL (l.take k) ++ ruleL l[k] ++ [10] := by
  unfold rulesL
  rw [List.take_succ_eq_append_getElem hlt, List.flatMap_append]
  simp
set_option maxHeartbeats 16000000 in
set_option maxRecDepth 100000 in
theorem rrtext_any (A : Option Addr) (c : Nat) (l : List Rul) (w : World) (hV : RulsV w (.slice A l.length c) l) (hl : SizedRs l) :
    Calls Tryz.prog 25 #[.slice A l.length c] w fun e w' => e = .returned (.tuple #[.string ⟨(rulesText l).1.toArray⟩, .int .i64 ((rulesText l).2 : Int)]) ∧ Below w.heap.size w w' := by
  obtain ⟨i0, hi, hz0, hz1, hz2⟩ := info_parts byteInfo
  have HV := Lib.hid hV
  obtain ⟨hl1, hl2⟩ := hl
  have HL2 := Lib.hid hl2
  clear hV hl2
  by_cases h100 : 100 < l.length
  · have HX : Hid (rulesText l = ([], 1)) := by unfold Hid rulesText; rw [if_neg (fun e => by omega)]
    have d1 : decide ((100 : Int) < (l.length : Int)) = true := decide_eq_true (by omega)
    go_enter Tryz.func25, Tryz.ntmps25
    go_wp2_with fail
    go_returns
    exact ⟨by rw [HX.out]; rfl, Below.refl _ _⟩
  · have d1 : decide ((100 : Int) < (l.length : Int)) = false := decide_eq_false (by omega)
    have HXN : Hid (l.all rulOk = false → rulesText l = ([], 1)) := fun h => by unfold rulesText; rw [if_neg (fun e => by rw [h] at e; cases e.2)]
    have HXY : Hid (l.all rulOk = true → rulesText l = if 16384 < (rulesL l).length then ([], 2) else (rulesL l, 0)) := fun h => by unfold rulesText; rw [if_pos ⟨by omega, h⟩]
    have hle : l.length ≤ 100 := by omega
    clear h100
    go_enter Tryz.func25, Tryz.ntmps25
    go_wp2_with fail
    go_loopw [5] (fun i wr => ∃ (k : Nat), i = .int .i64 k ∧ k ≤ l.length ∧ Below w.heap.size w wr ∧ Hid (∀ x ∈ l.take k, rulOk x = true)) (fun i _ => l.length - (intOf i).toNat)
    case atStart => exact ⟨0, rfl, by omega, Below.refl _ _, by simp [Hid]⟩
    case round =>
      obtain ⟨k, rfl, hk, hB, HN⟩ := hrel
      by_cases hlt : k < l.length
      · obtain ⟨b, o, A1, c1, A2, c2, rfl, hbl, g0, g1, g2, g3, hr⟩ := HV.out.at hlt
        have q0 := (hB.cell (p := ⟨b, o + k * 4, none⟩) hbl).trans g0
        have q1 := (hB.cell (p := ⟨b, o + k * 4 + 1, none⟩) hbl).trans g1
        have q2 := (hB.cell (p := ⟨b, o + k * 4 + 2, none⟩) hbl).trans g2
        have q3 := (hB.cell (p := ⟨b, o + k * 4 + 3, none⟩) hbl).trans g3
        have k0 : (0 : Int) ≤ (k : Int) := by omega
        have k1 : (k : Int) < (l.length : Int) := by omega
        have p1 := rvrule_any l[k] A1 A2 c1 c2 wr (hr.below hB) (HL2.out _ (List.getElem_mem _))
        have HS : Hid (rulOk l[k] = true → ∀ x ∈ l.take (k + 1), rulOk x = true) := fun h => all_take hlt HN.out h
        have HF : Hid (rulOk l[k] = false → l.all rulOk = false) := fun h => all_no hlt h
        generalize l[k] = rr at *
        generalize rulOk rr = q at *
        clear g0 g1 g2 g3 hr
        go_wp2_with fail
        refine p1.mono ?_
        rintro x wx ⟨rfl, bx⟩
        have hB2 := bstep hB bx
        cases q with
        | false =>
          have HX := Lib.hid (HXN.out (HF.out rfl))
          go_wp2_with fail
          go_returns
          exact ⟨by rw [HX.out]; rfl, hB2⟩
        | true =>
          go_wp2_with fail
          go_roundw
          case rel => exact ⟨k + 1, by go_num, by omega, hB2, HS.out (by simp)⟩
          case measure => simp [intOf]; omega
      · obtain rfl : k = l.length := by omega
        have HAL : Hid (∀ x ∈ l, rulOk x = true) := by have := HN.out; rwa [List.take_length] at this
        have HX : Hid (rulesText l = if 16384 < (rulesL l).length then ([], 2) else (rulesL l, 0)) := HXY.out (List.all_eq_true.2 HAL.out)
        have k9 : decide (l.length < l.length) = false := decide_eq_false (by omega)
        obtain ⟨w1, hw1⟩ : ∃ W, W = wr := ⟨_, rfl⟩
        subst hw1
        have b1 := hB
        clear hB
        go_wp2_with fail
        go_loopw [4, 6] (fun v i wr => ∃ (k : Nat), i = .int .i64 k ∧ k ≤ l.length ∧ Below w1.heap.size w1 wr ∧ Own w1.heap.size 5 v (Lib.byteCells (rulesL (l.take k))) wr) (fun _ i _ => l.length - (intOf i).toNat)
        case atStart => exact ⟨0, rfl, by omega, Below.refl _ _, Own.nil _ _ _⟩
        case round =>
          obtain ⟨k, rfl, hk, hB, hown⟩ := hrel
          by_cases hlt : k < l.length
          · have bR := bstep b1 hB
            obtain ⟨b, o, A1, c1, A2, c2, rfl, hbl, g0, g1, g2, g3, hr⟩ := HV.out.at hlt
            have q0 := (bR.cell (p := ⟨b, o + k * 4, none⟩) hbl).trans g0
            have q1 := (bR.cell (p := ⟨b, o + k * 4 + 1, none⟩) hbl).trans g1
            have q2 := (bR.cell (p := ⟨b, o + k * 4 + 2, none⟩) hbl).trans g2
            have q3 := (bR.cell (p := ⟨b, o + k * 4 + 3, none⟩) hbl).trans g3
            have k0 : (0 : Int) ≤ (k : Int) := by omega
            have k1 : (k : Int) < (l.length : Int) := by omega
            have hok := HAL.out l[k] (List.getElem_mem _)
            have p1 := rrule_any l[k] A1 A2 c1 c2 wr (hr.below bR) hok
            have hrl := ruleL_len hok
            have HN2 := Lib.hid (rulesL_take hlt)
            have hpl := rulesL_part HAL.out k (by omega)
            have hkb : k * 200001 ≤ 100 * 200001 := Nat.mul_le_mul (by omega) (Nat.le_refl _)
            have hacc : (rulesL (l.take k)).length ≤ 30000000 := by omega
            generalize l[k] = rr at *
            generalize rulesL (l.take k) = acc at *
            obtain ⟨Q, hQ⟩ : ∃ N : ByteArray, (⟨(ruleL rr).toArray⟩ : ByteArray) = N := ⟨_, rfl⟩
            have e2 : ruleL rr = Q.data.toList := by rw [← hQ]
            rw [hQ] at p1
            rw [e2, ← Lib.size_eq] at hrl
            rw [e2] at HN2
            have hcv : acc.length + Q.size ≤ 140737488355328 := by omega
            have hml : (Lib.byteCells (acc ++ Q.data.toList)).length + 1 ≤ maxLen := by rw [Lib.byteCells_length, List.length_append, ← Lib.size_eq]; unfold maxLen; omega
            have hmb : ((Lib.byteCells (acc ++ Q.data.toList)).length + 1) * 1 ≤ 140737488355328 := by rw [Lib.byteCells_length, List.length_append, ← Lib.size_eq]; omega
            clear g0 g1 g2 g3 hr hok hQ e2 hpl hkb
            go_wp2_with fail
            refine p1.mono ?_
            rintro e w2 ⟨rfl, b2⟩
            have hown2 := hown.below b2
            have hB2 := bstep hB b2
            clear q0 q1 q2 q3
            go_wp2_with (first | (at_builtin; refine wpList_appS rfl (.tmp 28) (.tmp 33) 67 9 rfl w1.heap.size 5 i0 Tryz.underlying67 Tryz.underlying9 hi hz0 hz1 hz2 _ acc rfl hown2 rfl hcv hB2.size ?_; intro v3 w3 hown3 hb3; have hB3 := hB2.trans hb3) | (at_builtin; refine wpList_app1 rfl (.tmp 35) (.tmp 36) 67 rfl w1.heap.size i0 _ 1 Tryz.underlying67 hi hz0 hz1 hz2 rfl _ (Lib.byteCells (acc ++ Q.data.toList)) rfl hown3 1 rfl rfl hml hmb hB3.size ?_; intro v4 w4 hown4 _ hb4; have hB4 := hB3.trans hb4))
            go_roundw
            case rel =>
              refine ⟨k + 1, by go_num, by omega, hB4, ?_⟩
              rw [HN2.out, ← byteCells_snoc1]
              exact hown4
            case measure => simp [intOf]; omega
          · obtain rfl : k = l.length := by omega
            rw [List.take_length] at hown
            have hcv := own_string Tryz.underlying67 Tryz.underlying5 Tryz.underlying9 hown
            obtain ⟨At, ct, rfl, hct, hrt⟩ := hown.row.to (n := (rulesL l).length) (by rw [Lib.byteCells_length])
            clear hown hrt HXY
            generalize rulesL l = TL at *
            by_cases hbig : 16384 < TL.length
            · have d3 : decide ((16384 : Int) < (TL.length : Int)) = true := decide_eq_true (by omega)
              have HX3 : Hid (rulesText l = ([], 2)) := by rw [Hid, HX.out, if_pos hbig]
              go_wp2_with fail
              go_returns
              exact ⟨by rw [HX3.out]; rfl, bstep b1 hB⟩
            · have d3 : decide ((16384 : Int) < (TL.length : Int)) = false := decide_eq_false (by omega)
              have HX3 : Hid (rulesText l = (TL, 0)) := by rw [Hid, HX.out, if_neg hbig]
              go_wp2_with fail
              go_returns
              exact ⟨by rw [HX3.out]; rfl, bstep b1 hB⟩
end Go.Proofs.YtplipnchkkhdaaaGreatDoor
