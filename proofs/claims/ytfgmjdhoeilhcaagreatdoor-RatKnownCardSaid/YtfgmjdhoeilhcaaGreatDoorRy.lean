/- Walks: sums, differences and multiples block by block. -/
import Derived.Test.YtfgmjdhoeilhcaaGreatDoorRx
import Derived.Test.YtfgmjdhoeilhcaaGreatDoorRo
namespace Go.Proofs.YtfgmjdhoeilhcaaGreatDoor
open Go.RowKit
set_option linter.unusedVariables false

set_option maxHeartbeats 1000000 in
set_option maxRecDepth 100000 in
theorem clo_plus (a b c : Nat) (w : World) (ha : a < 1000000000) (hb : b < 1000000000) (hc : c ≤ 1) :
    Calls Tryz.prog 126 #[.int .u64 a, .int .u64 b, .int .u64 c] w fun e w' => e = .returned (.tuple #[.int .u64 (plusF a b c).1, .int .u64 (plusF a b c).2]) ∧ w = w' := by
  go_enter Tryz.func126, Tryz.ntmps126
  go_wp2_with fail
  go_returns
  exact ⟨ret_int2 (by unfold plusF BB; simp only []; omega) (by unfold plusF BB; simp only []; omega), rfl⟩
set_option maxHeartbeats 1000000 in
set_option maxRecDepth 100000 in
theorem clo_minus (a b c : Nat) (w : World) (ha : a < 1000000000) (hb : b < 1000000000) (hc : c ≤ 1) :
    Calls Tryz.prog 129 #[.int .u64 a, .int .u64 b, .int .u64 c] w fun e w' => e = .returned (.tuple #[.int .u64 (minusF a b c).1, .int .u64 (minusF a b c).2]) ∧ w = w' := by
  go_enter Tryz.func129, Tryz.ntmps129
  go_wp2_with fail
  go_returns
  exact ⟨ret_int2 (by unfold minusF BB; simp only []; omega) (by unfold minusF BB; simp only []; omega), rfl⟩
set_option maxHeartbeats 1000000 in
set_option maxRecDepth 100000 in
theorem clo_scale (k a b c K : Nat) (w : World) (hK : w.cell? ⟨K, 0, none⟩ = some (.int .u64 k)) (ha : a < 1000000000) (hk : k ≤ 1000000000) (hc : c < 1000000000) :
    Calls Tryz.prog 130 #[.int .u64 a, .int .u64 b, .int .u64 c, .pointer (some ⟨K, 0, none⟩)] w fun e w' => e = .returned (.tuple #[.int .u64 (scaleF k a b c).1, .int .u64 (scaleF k a b c).2]) ∧ w = w' := by
  have hp : a * k ≤ 1000000000 * 1000000000 := Nat.mul_le_mul (by omega) hk
  obtain ⟨p, hpp⟩ : ∃ p, a * k = p := ⟨_, rfl⟩
  have hpi : (a : Int) * (k : Int) = (p : Int) := by rw [← hpp]; exact (Int.natCast_mul a k).symm
  rw [hpp] at hp
  have HP := Lib.hid hpp
  clear hpp
  go_enter Tryz.func130, Tryz.ntmps130
  go_wp2_with fail
  go_returns
  exact ⟨ret_int2 (by unfold scaleF BB; rw [HP.out]; simp only []; omega) (by unfold scaleF BB; rw [HP.out]; simp only []; omega), rfl⟩
/-- what a function answers that returns a row of its own -/
def OwnPost (w : World) (l : List Nat) (e : Ending) (w' : World) : Prop :=
  ∃ v, e = .returned v ∧ Own w.heap.size 89 v (l.map U) w' ∧ Below w.heap.size w w'
theorem OwnPost.blk {w w' : World} {l : List Nat} {e : Ending} (h : OwnPost w l e w') : BlkPost w l e w' := by
  obtain ⟨v, rfl, ho, hb⟩ := h
  obtain ⟨A, c, rfl, hc, hr⟩ := ho.row.to (n := l.length) (by simp)
  exact ⟨A, c, rfl, hc, hr, hb⟩
theorem getD_eq {x : List Nat} {i : Nat} (h : i < x.length) : x.getD i 0 = x[i] := by
  rw [List.getD_eq_getElem?_getD, List.getElem?_eq_getElem h]; rfl
theorem scale_invb {x : List Nat} {k : Nat} (hx : ∀ d ∈ x, d < BB) (hk : k ≤ BB) (i : Nat) : (eachS (scaleF k) x [] i).2 < 1000000000 := (scale_inv hx hk i).2.2

set_option maxHeartbeats 2000000 in
set_option maxRecDepth 100000 in
theorem each_plus (A B : Option Addr) (c d : Nat) (w : World) (x : List Nat) (hx : ∀ d ∈ x, d < BB) (y : List Nat) (hy : ∀ d ∈ y, d < BB) (hA : RowAt w A (x.map U)) (hB : RowAt w B ((y : List Nat).map U)) (hlx : x.length ≤ 10000) (hly : (y : List Nat).length ≤ 10000) :
    Calls Tryz.prog 125 #[.slice A x.length c, .slice B (y : List Nat).length d, .func (.func 126) #[] #[]] w (OwnPost w (trimL (eachS plusF x y (max x.length (y : List Nat).length + 1)).1)) := by
  obtain ⟨i0, hi, hz0, hz1, hz2⟩ := info_parts u64Info
  have hxd := fun i => getD_lt BB_pos hx i
  have HX : Hid (∀ i, x.getD i 0 < 1000000000) := hxd
  have HY : Hid (∀ i, (y : List Nat).getD i 0 < 1000000000) := fun i => by first | exact getD_lt BB_pos hy i | (rw [getD_far (by simp)]; omega)
  have HI : Hid (∀ i, (eachS plusF x y i).2 ≤ 1) := fun i => (plus_inv hx hy i).2.2
  have HL : Hid (∀ i, (eachS plusF x y i).1.length = i) := fun i => eachS_length _ _ _ i
  obtain ⟨N, hN⟩ : ∃ N, max x.length (y : List Nat).length = N := ⟨_, rfl⟩
  have hmx : max ((x.length : Nat) : Int) (((y : List Nat).length : Nat) : Int) = (N : Int) := by omega
  have hN1 : N ≤ 10000 := by omega
  have hN2 : N ≤ x.length + y.length := by first | omega | (simp at hN; omega)
  have HN1 := Lib.hid hN
  rw [hN]
  clear hN hxd
  go_enter Tryz.func125, Tryz.ntmps125
  go_wp2_with fail
  go_loopw [7, 8, 19] (fun l cy i wr => ∃ (j0 : Nat), i = .int .i64 j0 ∧ j0 ≤ N + 1 ∧ cy = .int .u64 (eachS plusF x y j0).2 ∧ Below w.heap.size w wr ∧ Own w.heap.size 89 l ((eachS plusF x y j0).1.map U) wr) (fun _ _ i _ => N + 1 - (intOf i).toNat)
  case atStart => exact ⟨0, rfl, by omega, rfl, Below.refl _ _, Own.nil _ _ _⟩
  case round =>
    obtain ⟨k0, rfl, hk0, rfl, hb, hown⟩ := hrel
    by_cases hlt : k0 < N + 1
    · obtain ⟨a, ha⟩ : ∃ a, x.getD k0 0 = a := ⟨_, rfl⟩
      obtain ⟨b, hb'⟩ : ∃ b, (y : List Nat).getD k0 0 = b := ⟨_, rfl⟩
      obtain ⟨q, hq⟩ : ∃ q, (eachS plusF x y k0).2 = q := ⟨_, rfl⟩
      have ha1 := HX.out k0
      have hb1 := HY.out k0
      have hq1 := HI.out k0
      have hlen := HL.out k0
      rw [ha] at ha1
      rw [hb'] at hb1
      rw [hq] at hq1
      have hcl : ∀ W, Below w.heap.size w W → Calls Tryz.prog 126 #[.int .u64 a, .int .u64 b, .int .u64 q] W fun e w' => e = .returned (.tuple #[.int .u64 (plusF a b q).1, .int .u64 (plusF a b q).2]) ∧ W = w' := fun W hW => clo_plus a b q W ha1 hb1 hq1
      have hS1 : (eachS plusF x y (k0 + 1)).1 = (eachS plusF x y k0).1 ++ [(plusF a b q).1] := by rw [← ha, ← hb', ← hq]; rfl
      have hS2 : (eachS plusF x y (k0 + 1)).2 = (plusF a b q).2 := by rw [← ha, ← hb', ← hq]; rfl
      have HS1 := Lib.hid hS1
      have HS2 := Lib.hid hS2
      obtain ⟨r1, hr1⟩ : ∃ r, (plusF a b q).1 = r := ⟨_, rfl⟩
      obtain ⟨r2, hr2⟩ : ∃ r, (plusF a b q).2 = r := ⟨_, rfl⟩
      rw [hr1] at HS1
      rw [hr2] at HS2
      rw [hr1, hr2] at hcl
      rw [hq]
      generalize (eachS plusF x y k0).1 = L at hown hlen HS1
      have hml : (L.map U).length + 1 ≤ maxLen := by rw [List.length_map]; unfold maxLen; omega
      have hmb : ((L.map U).length + 1) * 8 ≤ 140737488355328 := by rw [List.length_map]; omega
      clear hr1 hr2 hq hS1 hS2
      by_cases h1 : k0 < x.length
      · obtain ⟨b1, o1, rfl, hbl1, hcell1⟩ := (hA.below hb) (by intro e; rw [List.map_eq_nil_iff] at e; rw [e] at h1; simp at h1)
        have hc1 : wr.cell? ⟨b1, o1 + k0, none⟩ = some (.int .u64 a) := by rw [← ha, getD_eq h1]; exact hcell1 k0 _ (getU h1)
        clear hcell1 ha
        by_cases h2 : k0 < (y : List Nat).length
        · try (exact absurd h2 (Nat.not_lt_zero _))
          all_goals
            obtain ⟨b2, o2, rfl, hbl2, hcell2⟩ := (hB.below hb) (by intro e; rw [List.map_eq_nil_iff] at e; rw [e] at h2; simp at h2)
            have hc2 : wr.cell? ⟨b2, o2 + k0, none⟩ = some (.int .u64 b) := by rw [← hb', getD_eq h2]; exact hcell2 k0 _ (getU h2)
            clear hcell2 hb'
            go_wp2_with (first | (go_at_call 126; refine (hcl _ hb).mono ?_; rintro e wx ⟨rfl, rfl⟩) | (at_builtin; refine wpList_app1 rfl (.tmp 46) (.tmp 48) 87 rfl w.heap.size i0 _ 8 Tryz.underlying87 hi hz0 hz1 hz2 rfl _ (L.map U) rfl hown 1 rfl rfl hml hmb hb.size ?_; intro v' w3 hown4 _ hb4))
            go_roundw
            case rel => exact ⟨k0 + 1, by go_num, by omega, by rw [HS2.out], hb.trans hb4, by rw [HS1.out, ← U_snoc]; exact hown4⟩
            case measure => simp [intOf]; omega
        · obtain rfl : b = 0 := by rw [← hb', getD_far (by omega)]
          clear hb'
          go_wp2_with (first | (go_at_call 126; refine (hcl _ hb).mono ?_; rintro e wx ⟨rfl, rfl⟩) | (at_builtin; refine wpList_app1 rfl (.tmp 46) (.tmp 48) 87 rfl w.heap.size i0 _ 8 Tryz.underlying87 hi hz0 hz1 hz2 rfl _ (L.map U) rfl hown 1 rfl rfl hml hmb hb.size ?_; intro v' w3 hown4 _ hb4))
          go_roundw
          case rel => exact ⟨k0 + 1, by go_num, by omega, by rw [HS2.out], hb.trans hb4, by rw [HS1.out, ← U_snoc]; exact hown4⟩
          case measure => simp [intOf]; omega
      · obtain rfl : a = 0 := by rw [← ha, getD_far (by omega)]
        clear ha
        by_cases h2 : k0 < (y : List Nat).length
        · try (exact absurd h2 (Nat.not_lt_zero _))
          all_goals
            obtain ⟨b2, o2, rfl, hbl2, hcell2⟩ := (hB.below hb) (by intro e; rw [List.map_eq_nil_iff] at e; rw [e] at h2; simp at h2)
            have hc2 : wr.cell? ⟨b2, o2 + k0, none⟩ = some (.int .u64 b) := by rw [← hb', getD_eq h2]; exact hcell2 k0 _ (getU h2)
            clear hcell2 hb'
            go_wp2_with (first | (go_at_call 126; refine (hcl _ hb).mono ?_; rintro e wx ⟨rfl, rfl⟩) | (at_builtin; refine wpList_app1 rfl (.tmp 46) (.tmp 48) 87 rfl w.heap.size i0 _ 8 Tryz.underlying87 hi hz0 hz1 hz2 rfl _ (L.map U) rfl hown 1 rfl rfl hml hmb hb.size ?_; intro v' w3 hown4 _ hb4))
            go_roundw
            case rel => exact ⟨k0 + 1, by go_num, by omega, by rw [HS2.out], hb.trans hb4, by rw [HS1.out, ← U_snoc]; exact hown4⟩
            case measure => simp [intOf]; omega
        · obtain rfl : b = 0 := by rw [← hb', getD_far (by omega)]
          clear hb'
          go_wp2_with (first | (go_at_call 126; refine (hcl _ hb).mono ?_; rintro e wx ⟨rfl, rfl⟩) | (at_builtin; refine wpList_app1 rfl (.tmp 46) (.tmp 48) 87 rfl w.heap.size i0 _ 8 Tryz.underlying87 hi hz0 hz1 hz2 rfl _ (L.map U) rfl hown 1 rfl rfl hml hmb hb.size ?_; intro v' w3 hown4 _ hb4))
          go_roundw
          case rel => exact ⟨k0 + 1, by go_num, by omega, by rw [HS2.out], hb.trans hb4, by rw [HS1.out, ← U_snoc]; exact hown4⟩
          case measure => simp [intOf]; omega
    · obtain rfl : k0 = N + 1 := by omega
      have hlen := HL.out (N + 1)
      have HD := HI
      clear HX HY HI HL hA hB
      obtain ⟨L, hL0⟩ : ∃ L, (eachS plusF x y (N + 1)).1 = L := ⟨_, rfl⟩
      rw [hL0] at hown hlen
      have HL0 := Lib.hid hL0
      clear hL0
      obtain ⟨A', c', rfl, hc', hr⟩ := hown.row.to (n := L.length) (by simp)
      have ht := trim_any A' c' L wr hr (by omega) hc'
      have hle := trimL_le L
      have HO := Lib.hid (hown.upto (k := (trimL L).length) (by rw [List.length_map]; exact trimL_le L))
      have HTK := Lib.hid (trimL_take L)
      obtain ⟨L2, hL2⟩ : ∃ L2, trimL L = L2 := ⟨_, rfl⟩
      rw [hL2] at ht hle HO HTK
      have HL2 := Lib.hid hL2
      clear hL2
      clear hr hown hlen
      go_wp2_with (go_at_call 85; refine ht.mono ?_; rintro e wx ⟨rfl, rfl⟩)
      go_returns
      unfold OwnPost
      rw [HL0.out, HL2.out]
      refine ⟨_, rfl, ?_, hb⟩
      have h1 := HO.out
      rw [← List.map_take, ← HTK.out] at h1
      exact h1
set_option maxHeartbeats 2000000 in
set_option maxRecDepth 100000 in
theorem each_minus (A B : Option Addr) (c d : Nat) (w : World) (x : List Nat) (hx : ∀ d ∈ x, d < BB) (y : List Nat) (hy : ∀ d ∈ y, d < BB) (hA : RowAt w A (x.map U)) (hB : RowAt w B ((y : List Nat).map U)) (hlx : x.length ≤ 10000) (hly : (y : List Nat).length ≤ 10000) :
    Calls Tryz.prog 125 #[.slice A x.length c, .slice B (y : List Nat).length d, .func (.func 129) #[] #[]] w (OwnPost w (trimL (eachS minusF x y (max x.length (y : List Nat).length + 1)).1)) := by
  obtain ⟨i0, hi, hz0, hz1, hz2⟩ := info_parts u64Info
  have hxd := fun i => getD_lt BB_pos hx i
  have HX : Hid (∀ i, x.getD i 0 < 1000000000) := hxd
  have HY : Hid (∀ i, (y : List Nat).getD i 0 < 1000000000) := fun i => by first | exact getD_lt BB_pos hy i | (rw [getD_far (by simp)]; omega)
  have HI : Hid (∀ i, (eachS minusF x y i).2 ≤ 1) := fun i => (minus_inv hx hy i).2.2
  have HL : Hid (∀ i, (eachS minusF x y i).1.length = i) := fun i => eachS_length _ _ _ i
  obtain ⟨N, hN⟩ : ∃ N, max x.length (y : List Nat).length = N := ⟨_, rfl⟩
  have hmx : max ((x.length : Nat) : Int) (((y : List Nat).length : Nat) : Int) = (N : Int) := by omega
  have hN1 : N ≤ 10000 := by omega
  have hN2 : N ≤ x.length + y.length := by first | omega | (simp at hN; omega)
  have HN1 := Lib.hid hN
  rw [hN]
  clear hN hxd
  go_enter Tryz.func125, Tryz.ntmps125
  go_wp2_with fail
  go_loopw [7, 8, 19] (fun l cy i wr => ∃ (j0 : Nat), i = .int .i64 j0 ∧ j0 ≤ N + 1 ∧ cy = .int .u64 (eachS minusF x y j0).2 ∧ Below w.heap.size w wr ∧ Own w.heap.size 89 l ((eachS minusF x y j0).1.map U) wr) (fun _ _ i _ => N + 1 - (intOf i).toNat)
  case atStart => exact ⟨0, rfl, by omega, rfl, Below.refl _ _, Own.nil _ _ _⟩
  case round =>
    obtain ⟨k0, rfl, hk0, rfl, hb, hown⟩ := hrel
    by_cases hlt : k0 < N + 1
    · obtain ⟨a, ha⟩ : ∃ a, x.getD k0 0 = a := ⟨_, rfl⟩
      obtain ⟨b, hb'⟩ : ∃ b, (y : List Nat).getD k0 0 = b := ⟨_, rfl⟩
      obtain ⟨q, hq⟩ : ∃ q, (eachS minusF x y k0).2 = q := ⟨_, rfl⟩
      have ha1 := HX.out k0
      have hb1 := HY.out k0
      have hq1 := HI.out k0
      have hlen := HL.out k0
      rw [ha] at ha1
      rw [hb'] at hb1
      rw [hq] at hq1
      have hcl : ∀ W, Below w.heap.size w W → Calls Tryz.prog 129 #[.int .u64 a, .int .u64 b, .int .u64 q] W fun e w' => e = .returned (.tuple #[.int .u64 (minusF a b q).1, .int .u64 (minusF a b q).2]) ∧ W = w' := fun W hW => clo_minus a b q W ha1 hb1 hq1
      have hS1 : (eachS minusF x y (k0 + 1)).1 = (eachS minusF x y k0).1 ++ [(minusF a b q).1] := by rw [← ha, ← hb', ← hq]; rfl
      have hS2 : (eachS minusF x y (k0 + 1)).2 = (minusF a b q).2 := by rw [← ha, ← hb', ← hq]; rfl
      have HS1 := Lib.hid hS1
      have HS2 := Lib.hid hS2
      obtain ⟨r1, hr1⟩ : ∃ r, (minusF a b q).1 = r := ⟨_, rfl⟩
      obtain ⟨r2, hr2⟩ : ∃ r, (minusF a b q).2 = r := ⟨_, rfl⟩
      rw [hr1] at HS1
      rw [hr2] at HS2
      rw [hr1, hr2] at hcl
      rw [hq]
      generalize (eachS minusF x y k0).1 = L at hown hlen HS1
      have hml : (L.map U).length + 1 ≤ maxLen := by rw [List.length_map]; unfold maxLen; omega
      have hmb : ((L.map U).length + 1) * 8 ≤ 140737488355328 := by rw [List.length_map]; omega
      clear hr1 hr2 hq hS1 hS2
      by_cases h1 : k0 < x.length
      · obtain ⟨b1, o1, rfl, hbl1, hcell1⟩ := (hA.below hb) (by intro e; rw [List.map_eq_nil_iff] at e; rw [e] at h1; simp at h1)
        have hc1 : wr.cell? ⟨b1, o1 + k0, none⟩ = some (.int .u64 a) := by rw [← ha, getD_eq h1]; exact hcell1 k0 _ (getU h1)
        clear hcell1 ha
        by_cases h2 : k0 < (y : List Nat).length
        · try (exact absurd h2 (Nat.not_lt_zero _))
          all_goals
            obtain ⟨b2, o2, rfl, hbl2, hcell2⟩ := (hB.below hb) (by intro e; rw [List.map_eq_nil_iff] at e; rw [e] at h2; simp at h2)
            have hc2 : wr.cell? ⟨b2, o2 + k0, none⟩ = some (.int .u64 b) := by rw [← hb', getD_eq h2]; exact hcell2 k0 _ (getU h2)
            clear hcell2 hb'
            go_wp2_with (first | (go_at_call 129; refine (hcl _ hb).mono ?_; rintro e wx ⟨rfl, rfl⟩) | (at_builtin; refine wpList_app1 rfl (.tmp 46) (.tmp 48) 87 rfl w.heap.size i0 _ 8 Tryz.underlying87 hi hz0 hz1 hz2 rfl _ (L.map U) rfl hown 1 rfl rfl hml hmb hb.size ?_; intro v' w3 hown4 _ hb4))
            go_roundw
            case rel => exact ⟨k0 + 1, by go_num, by omega, by rw [HS2.out], hb.trans hb4, by rw [HS1.out, ← U_snoc]; exact hown4⟩
            case measure => simp [intOf]; omega
        · obtain rfl : b = 0 := by rw [← hb', getD_far (by omega)]
          clear hb'
          go_wp2_with (first | (go_at_call 129; refine (hcl _ hb).mono ?_; rintro e wx ⟨rfl, rfl⟩) | (at_builtin; refine wpList_app1 rfl (.tmp 46) (.tmp 48) 87 rfl w.heap.size i0 _ 8 Tryz.underlying87 hi hz0 hz1 hz2 rfl _ (L.map U) rfl hown 1 rfl rfl hml hmb hb.size ?_; intro v' w3 hown4 _ hb4))
          go_roundw
          case rel => exact ⟨k0 + 1, by go_num, by omega, by rw [HS2.out], hb.trans hb4, by rw [HS1.out, ← U_snoc]; exact hown4⟩
          case measure => simp [intOf]; omega
      · obtain rfl : a = 0 := by rw [← ha, getD_far (by omega)]
        clear ha
        by_cases h2 : k0 < (y : List Nat).length
        · try (exact absurd h2 (Nat.not_lt_zero _))
          all_goals
            obtain ⟨b2, o2, rfl, hbl2, hcell2⟩ := (hB.below hb) (by intro e; rw [List.map_eq_nil_iff] at e; rw [e] at h2; simp at h2)
            have hc2 : wr.cell? ⟨b2, o2 + k0, none⟩ = some (.int .u64 b) := by rw [← hb', getD_eq h2]; exact hcell2 k0 _ (getU h2)
            clear hcell2 hb'
            go_wp2_with (first | (go_at_call 129; refine (hcl _ hb).mono ?_; rintro e wx ⟨rfl, rfl⟩) | (at_builtin; refine wpList_app1 rfl (.tmp 46) (.tmp 48) 87 rfl w.heap.size i0 _ 8 Tryz.underlying87 hi hz0 hz1 hz2 rfl _ (L.map U) rfl hown 1 rfl rfl hml hmb hb.size ?_; intro v' w3 hown4 _ hb4))
            go_roundw
            case rel => exact ⟨k0 + 1, by go_num, by omega, by rw [HS2.out], hb.trans hb4, by rw [HS1.out, ← U_snoc]; exact hown4⟩
            case measure => simp [intOf]; omega
        · obtain rfl : b = 0 := by rw [← hb', getD_far (by omega)]
          clear hb'
          go_wp2_with (first | (go_at_call 129; refine (hcl _ hb).mono ?_; rintro e wx ⟨rfl, rfl⟩) | (at_builtin; refine wpList_app1 rfl (.tmp 46) (.tmp 48) 87 rfl w.heap.size i0 _ 8 Tryz.underlying87 hi hz0 hz1 hz2 rfl _ (L.map U) rfl hown 1 rfl rfl hml hmb hb.size ?_; intro v' w3 hown4 _ hb4))
          go_roundw
          case rel => exact ⟨k0 + 1, by go_num, by omega, by rw [HS2.out], hb.trans hb4, by rw [HS1.out, ← U_snoc]; exact hown4⟩
          case measure => simp [intOf]; omega
    · obtain rfl : k0 = N + 1 := by omega
      have hlen := HL.out (N + 1)
      have HD := HI
      clear HX HY HI HL hA hB
      obtain ⟨L, hL0⟩ : ∃ L, (eachS minusF x y (N + 1)).1 = L := ⟨_, rfl⟩
      rw [hL0] at hown hlen
      have HL0 := Lib.hid hL0
      clear hL0
      obtain ⟨A', c', rfl, hc', hr⟩ := hown.row.to (n := L.length) (by simp)
      have ht := trim_any A' c' L wr hr (by omega) hc'
      have hle := trimL_le L
      have HO := Lib.hid (hown.upto (k := (trimL L).length) (by rw [List.length_map]; exact trimL_le L))
      have HTK := Lib.hid (trimL_take L)
      obtain ⟨L2, hL2⟩ : ∃ L2, trimL L = L2 := ⟨_, rfl⟩
      rw [hL2] at ht hle HO HTK
      have HL2 := Lib.hid hL2
      clear hL2
      clear hr hown hlen
      go_wp2_with (go_at_call 85; refine ht.mono ?_; rintro e wx ⟨rfl, rfl⟩)
      go_returns
      unfold OwnPost
      rw [HL0.out, HL2.out]
      refine ⟨_, rfl, ?_, hb⟩
      have h1 := HO.out
      rw [← List.map_take, ← HTK.out] at h1
      exact h1
set_option maxHeartbeats 2000000 in
set_option maxRecDepth 100000 in
theorem each_scale (A B : Option Addr) (c d : Nat) (w : World) (x : List Nat) (hx : ∀ d ∈ x, d < BB) (k K : Nat) (hk : k ≤ BB) (hK : w.cell? ⟨K, 0, none⟩ = some (.int .u64 k)) (hA : RowAt w A (x.map U)) (hB : RowAt w B (([] : List Nat).map U)) (hlx : x.length ≤ 10000) (hly : ([] : List Nat).length ≤ 10000) :
    Calls Tryz.prog 125 #[.slice A x.length c, .slice B ([] : List Nat).length d, .func (.func 130) #[] #[.pointer (some ⟨K, 0, none⟩)]] w (OwnPost w (trimL (eachS (scaleF k) x [] (max x.length ([] : List Nat).length + 1)).1)) := by
  obtain ⟨i0, hi, hz0, hz1, hz2⟩ := info_parts u64Info
  have hxd := fun i => getD_lt BB_pos hx i
  have HX : Hid (∀ i, x.getD i 0 < 1000000000) := hxd
  have HY : Hid (∀ i, ([] : List Nat).getD i 0 < 1000000000) := fun i => by first | exact getD_lt BB_pos hy i | (rw [getD_far (by simp)]; omega)
  have HI : Hid (∀ i, (eachS (scaleF k) x [] i).2 < 1000000000) := fun i => scale_invb hx hk i
  have HL : Hid (∀ i, (eachS (scaleF k) x [] i).1.length = i) := fun i => eachS_length _ _ _ i
  obtain ⟨N, hN⟩ : ∃ N, max x.length ([] : List Nat).length = N := ⟨_, rfl⟩
  have hmx : max ((x.length : Nat) : Int) ((([] : List Nat).length : Nat) : Int) = (N : Int) := by omega
  have hN1 : N ≤ 10000 := by omega
  have hN2 : N ≤ x.length + 0 := by first | omega | (simp at hN; omega)
  have HN1 := Lib.hid hN
  rw [hN]
  clear hN hxd
  go_enter Tryz.func125, Tryz.ntmps125
  go_wp2_with fail
  go_loopw [7, 8, 19] (fun l cy i wr => ∃ (j0 : Nat), i = .int .i64 j0 ∧ j0 ≤ N + 1 ∧ cy = .int .u64 (eachS (scaleF k) x [] j0).2 ∧ Below w.heap.size w wr ∧ Own w.heap.size 89 l ((eachS (scaleF k) x [] j0).1.map U) wr) (fun _ _ i _ => N + 1 - (intOf i).toNat)
  case atStart => exact ⟨0, rfl, by omega, rfl, Below.refl _ _, Own.nil _ _ _⟩
  case round =>
    obtain ⟨k0, rfl, hk0, rfl, hb, hown⟩ := hrel
    by_cases hlt : k0 < N + 1
    · obtain ⟨a, ha⟩ : ∃ a, x.getD k0 0 = a := ⟨_, rfl⟩
      obtain ⟨b, hb'⟩ : ∃ b, ([] : List Nat).getD k0 0 = b := ⟨_, rfl⟩
      obtain ⟨q, hq⟩ : ∃ q, (eachS (scaleF k) x [] k0).2 = q := ⟨_, rfl⟩
      have ha1 := HX.out k0
      have hb1 := HY.out k0
      have hq1 := HI.out k0
      have hlen := HL.out k0
      rw [ha] at ha1
      rw [hb'] at hb1
      rw [hq] at hq1
      have hcl : ∀ W, Below w.heap.size w W → Calls Tryz.prog 130 #[.int .u64 a, .int .u64 b, .int .u64 q, .pointer (some ⟨K, 0, none⟩)] W fun e w' => e = .returned (.tuple #[.int .u64 ((scaleF k) a b q).1, .int .u64 ((scaleF k) a b q).2]) ∧ W = w' := fun W hW => clo_scale k a b q K W ((hW.cell (cell_lt hK)).trans hK) ha1 hk hq1
      have hS1 : (eachS (scaleF k) x [] (k0 + 1)).1 = (eachS (scaleF k) x [] k0).1 ++ [((scaleF k) a b q).1] := by rw [← ha, ← hb', ← hq]; rfl
      have hS2 : (eachS (scaleF k) x [] (k0 + 1)).2 = ((scaleF k) a b q).2 := by rw [← ha, ← hb', ← hq]; rfl
      have HS1 := Lib.hid hS1
      have HS2 := Lib.hid hS2
      obtain ⟨r1, hr1⟩ : ∃ r, ((scaleF k) a b q).1 = r := ⟨_, rfl⟩
      obtain ⟨r2, hr2⟩ : ∃ r, ((scaleF k) a b q).2 = r := ⟨_, rfl⟩
      rw [hr1] at HS1
      rw [hr2] at HS2
      rw [hr1, hr2] at hcl
      rw [hq]
      generalize (eachS (scaleF k) x [] k0).1 = L at hown hlen HS1
      have hml : (L.map U).length + 1 ≤ maxLen := by rw [List.length_map]; unfold maxLen; omega
      have hmb : ((L.map U).length + 1) * 8 ≤ 140737488355328 := by rw [List.length_map]; omega
      clear hr1 hr2 hq hS1 hS2
      by_cases h1 : k0 < x.length
      · obtain ⟨b1, o1, rfl, hbl1, hcell1⟩ := (hA.below hb) (by intro e; rw [List.map_eq_nil_iff] at e; rw [e] at h1; simp at h1)
        have hc1 : wr.cell? ⟨b1, o1 + k0, none⟩ = some (.int .u64 a) := by rw [← ha, getD_eq h1]; exact hcell1 k0 _ (getU h1)
        clear hcell1 ha
        by_cases h2 : k0 < ([] : List Nat).length
        · try (exact absurd h2 (Nat.not_lt_zero _))
          all_goals
            obtain ⟨b2, o2, rfl, hbl2, hcell2⟩ := (hB.below hb) (by intro e; rw [List.map_eq_nil_iff] at e; rw [e] at h2; simp at h2)
            have hc2 : wr.cell? ⟨b2, o2 + k0, none⟩ = some (.int .u64 b) := by rw [← hb', getD_eq h2]; exact hcell2 k0 _ (getU h2)
            clear hcell2 hb'
            go_wp2_with (first | (go_at_call 130; refine (hcl _ hb).mono ?_; rintro e wx ⟨rfl, rfl⟩) | (at_builtin; refine wpList_app1 rfl (.tmp 46) (.tmp 48) 87 rfl w.heap.size i0 _ 8 Tryz.underlying87 hi hz0 hz1 hz2 rfl _ (L.map U) rfl hown 1 rfl rfl hml hmb hb.size ?_; intro v' w3 hown4 _ hb4))
            go_roundw
            case rel => exact ⟨k0 + 1, by go_num, by omega, by rw [HS2.out], hb.trans hb4, by rw [HS1.out, ← U_snoc]; exact hown4⟩
            case measure => simp [intOf]; omega
        · obtain rfl : b = 0 := by rw [← hb', getD_far (by omega)]
          clear hb'
          go_wp2_with (first | (go_at_call 130; refine (hcl _ hb).mono ?_; rintro e wx ⟨rfl, rfl⟩) | (at_builtin; refine wpList_app1 rfl (.tmp 46) (.tmp 48) 87 rfl w.heap.size i0 _ 8 Tryz.underlying87 hi hz0 hz1 hz2 rfl _ (L.map U) rfl hown 1 rfl rfl hml hmb hb.size ?_; intro v' w3 hown4 _ hb4))
          go_roundw
          case rel => exact ⟨k0 + 1, by go_num, by omega, by rw [HS2.out], hb.trans hb4, by rw [HS1.out, ← U_snoc]; exact hown4⟩
          case measure => simp [intOf]; omega
      · obtain rfl : a = 0 := by rw [← ha, getD_far (by omega)]
        clear ha
        by_cases h2 : k0 < ([] : List Nat).length
        · try (exact absurd h2 (Nat.not_lt_zero _))
          all_goals
            obtain ⟨b2, o2, rfl, hbl2, hcell2⟩ := (hB.below hb) (by intro e; rw [List.map_eq_nil_iff] at e; rw [e] at h2; simp at h2)
            have hc2 : wr.cell? ⟨b2, o2 + k0, none⟩ = some (.int .u64 b) := by rw [← hb', getD_eq h2]; exact hcell2 k0 _ (getU h2)
            clear hcell2 hb'
            go_wp2_with (first | (go_at_call 130; refine (hcl _ hb).mono ?_; rintro e wx ⟨rfl, rfl⟩) | (at_builtin; refine wpList_app1 rfl (.tmp 46) (.tmp 48) 87 rfl w.heap.size i0 _ 8 Tryz.underlying87 hi hz0 hz1 hz2 rfl _ (L.map U) rfl hown 1 rfl rfl hml hmb hb.size ?_; intro v' w3 hown4 _ hb4))
            go_roundw
            case rel => exact ⟨k0 + 1, by go_num, by omega, by rw [HS2.out], hb.trans hb4, by rw [HS1.out, ← U_snoc]; exact hown4⟩
            case measure => simp [intOf]; omega
        · obtain rfl : b = 0 := by rw [← hb', getD_far (by omega)]
          clear hb'
          go_wp2_with (first | (go_at_call 130; refine (hcl _ hb).mono ?_; rintro e wx ⟨rfl, rfl⟩) | (at_builtin; refine wpList_app1 rfl (.tmp 46) (.tmp 48) 87 rfl w.heap.size i0 _ 8 Tryz.underlying87 hi hz0 hz1 hz2 rfl _ (L.map U) rfl hown 1 rfl rfl hml hmb hb.size ?_; intro v' w3 hown4 _ hb4))
          go_roundw
          case rel => exact ⟨k0 + 1, by go_num, by omega, by rw [HS2.out], hb.trans hb4, by rw [HS1.out, ← U_snoc]; exact hown4⟩
          case measure => simp [intOf]; omega
    · obtain rfl : k0 = N + 1 := by omega
      have hlen := HL.out (N + 1)
      have HD := HI
      clear HX HY HI HL hA hB
      obtain ⟨L, hL0⟩ : ∃ L, (eachS (scaleF k) x [] (N + 1)).1 = L := ⟨_, rfl⟩
      rw [hL0] at hown hlen
      have HL0 := Lib.hid hL0
      clear hL0
      obtain ⟨A', c', rfl, hc', hr⟩ := hown.row.to (n := L.length) (by simp)
      have ht := trim_any A' c' L wr hr (by omega) hc'
      have hle := trimL_le L
      have HO := Lib.hid (hown.upto (k := (trimL L).length) (by rw [List.length_map]; exact trimL_le L))
      have HTK := Lib.hid (trimL_take L)
      obtain ⟨L2, hL2⟩ : ∃ L2, trimL L = L2 := ⟨_, rfl⟩
      rw [hL2] at ht hle HO HTK
      have HL2 := Lib.hid hL2
      clear hL2
      clear hr hown hlen
      go_wp2_with (go_at_call 85; refine ht.mono ?_; rintro e wx ⟨rfl, rfl⟩)
      go_returns
      unfold OwnPost
      rw [HL0.out, HL2.out]
      refine ⟨_, rfl, ?_, hb⟩
      have h1 := HO.out
      rw [← List.map_take, ← HTK.out] at h1
      exact h1
end Go.Proofs.YtfgmjdhoeilhcaaGreatDoor
