/- Walks: trim and compare of blocks. -/
import Derived.Test.YtfgmjdhoeilhcaaGreatDoorShelf
import Derived.Test.YtfgmjdhoeilhcaaGreatDoorRb
import Derived.Test.YtfgmjdhoeilhcaaGreatDoorNz
namespace Go.Proofs.YtfgmjdhoeilhcaaGreatDoor
open Go.RowKit
set_option linter.unusedVariables false

/-- a block -/
def U (n : Nat) : Value := .int .u64 n
theorem getU {l : List Nat} {k : Nat} (h : k < l.length) : (l.map U)[k]? = some (U l[k]) := by simp [h]
theorem RowAt.take {w : World} {A : Option Addr} {cs : List Value} (h : RowAt w A cs) (k : Nat) : RowAt w A (cs.take k) := fun hne => by
  obtain ⟨b, o, rfl, hlt, hcell⟩ := h (fun e => hne (by rw [e]; simp))
  refine ⟨b, o, rfl, hlt, fun j u hu => hcell j u ?_⟩
  rw [List.getElem?_take] at hu
  split at hu
  · exact hu
  · cases hu
/-- a slice's length, of a slot -/
def sliceLen : Value → Nat | .slice _ n _ => n | _ => 0
/-- what a function answers that returns a slice of blocks -/
def BlkPost (w : World) (l : List Nat) (e : Ending) (w' : World) : Prop :=
  ∃ A c, e = .returned (.slice A l.length c) ∧ l.length ≤ c ∧ RowAt w' A (l.map U) ∧ Below w.heap.size w w'
theorem trimL_take : ∀ l : List Nat, trimL l = l.take (trimL l).length
  | [] => rfl
  | x :: r => by
    have ih := trimL_take r
    unfold trimL
    split
    · rfl
    · rw [List.length_cons, List.take_succ_cons, ← ih]
theorem trimL_le (l : List Nat) : (trimL l).length ≤ l.length := by
  have := congrArg List.length (trimL_take l)
  rw [List.length_take] at this
  omega
theorem trimL_down {l : List Nat} {k : Nat} (hk : k < l.length) (h : l[k] = 0) : trimL (l.take (k + 1)) = trimL (l.take k) := by
  rw [List.take_succ_eq_append_getElem hk, h, trimL_snoc0]
theorem trimL_stop {l : List Nat} {k : Nat} (hk : k < l.length) (h : l[k] ≠ 0) : (trimL (l.take (k + 1))).length = k + 1 := by
  rw [List.take_succ_eq_append_getElem hk, trimL_snoc h, List.length_append, List.length_take]; simp; omega

set_option maxHeartbeats 1000000 in
set_option maxRecDepth 100000 in
theorem trim_any (A : Option Addr) (c : Nat) (l : List Nat) (w : World) (hrow : RowAt w A (l.map U)) (hl : l.length ≤ 100000) (hc : l.length ≤ c) :
    Calls Tryz.prog 85 #[.slice A l.length c] w fun e w' => e = .returned (.slice A (trimL l).length c) ∧ w = w' := by
  go_enter Tryz.func85, Tryz.ntmps85
  go_wp2_with fail
  go_loopw [0] (fun v wr => ∃ (k : Nat), v = .slice A k c ∧ k ≤ l.length ∧ wr = w ∧ Hid (trimL (l.take k) = trimL l)) (fun v _ => sliceLen v)
  case atStart => exact ⟨l.length, rfl, by omega, rfl, by rw [Hid, List.take_length]⟩
  case round =>
    obtain ⟨k, rfl, hk, rfl, H⟩ := hrel
    rcases Nat.eq_zero_or_pos k with rfl | hpos
    · have HZ : Hid (trimL l = []) := by rw [Hid, ← H.out]; rfl
      clear H hrow
      go_wp2_with fail
      go_returns
      exact ⟨by rw [HZ.out]; rfl, rfl⟩
    · obtain ⟨j, rfl⟩ : ∃ j, k = j + 1 := ⟨k - 1, by omega⟩
      have hj : j < l.length := by omega
      obtain ⟨b, o, rfl, hbl, hcell⟩ := hrow (by intro e; rw [List.map_eq_nil_iff] at e; rw [e] at hj; simp at hj)
      have hc1 : wr.cell? ⟨b, o + j, none⟩ = some (.int .u64 l[j]) := hcell j _ (getU hj)
      clear hcell
      by_cases hz : l[j] = 0
      · have HN : Hid (trimL (l.take j) = trimL l) := by rw [Hid, ← trimL_down hj hz]; exact H.out
        rw [hz] at hc1
        clear hz
        go_wp2_with fail
        go_roundw
        case rel => exact ⟨j, rfl, by omega, trivial, HN⟩
        case measure => simp [sliceLen]
      · have HN : Hid ((trimL l).length = j + 1) := by rw [Hid, ← H.out]; exact trimL_stop hj hz
        have f0 : (((l[j] : Nat) : Int) == 0) = false := by simp; omega
        clear hz
        go_wp2_with fail
        go_returns
        exact ⟨by rw [HN.out]; rfl, rfl⟩
set_option maxHeartbeats 1000000 in
set_option maxRecDepth 100000 in
theorem cmpU_any (a b : Nat) (w : World) :
    Calls Tryz.prog 128 #[.int .u64 a, .int .u64 b] w fun e w' => e = .returned (.int .i64 (cmpI a b)) ∧ w = w' := by
  have n1 : ∀ (a : Nat) W, Calls Tryz.prog 138 #[.int .u64 a] W fun e w' => e = .returned (.bool false) ∧ W = w' := fun a W => by
    go_enter Tryz.func138, Tryz.ntmps138
    go_wp2
    go_returns
    exact ⟨rfl, rfl⟩
  rcases Nat.lt_trichotomy a b with h | h | h
  · have HK := Lib.hid (cmpI_lt h)
    go_enter Tryz.func128, Tryz.ntmps128
    go_wp2_with (go_at_call 138; refine (n1 _ _).mono ?_; rintro e wx ⟨rfl, rfl⟩)
    go_returns
    exact ⟨by rw [HK.out]; rfl, rfl⟩
  · have HK := Lib.hid (cmpI_eq h)
    subst h
    go_enter Tryz.func128, Tryz.ntmps128
    go_wp2_with (go_at_call 138; refine (n1 _ _).mono ?_; rintro e wx ⟨rfl, rfl⟩)
    go_returns
    exact ⟨by rw [HK.out]; rfl, rfl⟩
  · have HK := Lib.hid (cmpI_gt h)
    go_enter Tryz.func128, Tryz.ntmps128
    go_wp2_with (go_at_call 138; refine (n1 _ _).mono ?_; rintro e wx ⟨rfl, rfl⟩)
    go_returns
    exact ⟨by rw [HK.out]; rfl, rfl⟩
set_option maxHeartbeats 1000000 in
set_option maxRecDepth 100000 in
theorem compare_any (A B : Option Addr) (c d : Nat) (m n : Nat) (w : World) (hA : RowAt w A ((blk m).map U)) (hB : RowAt w B ((blk n).map U)) (hm : (blk m).length ≤ 100000) (hn : (blk n).length ≤ 100000) :
    Calls Tryz.prog 109 #[.slice A (blk m).length c, .slice B (blk n).length d] w fun e w' => e = .returned (.int .i64 (cmpI m n)) ∧ Below w.heap.size w w' := by
  have ci : ∀ (x y : Int) W, Calls Tryz.prog 127 #[.int .i64 x, .int .i64 y] W fun e w' => e = .returned (.int .i64 (Lib.compareInt x y)) ∧ w' = W := fun x y W => Tryz.cmp_Compare_int x y W
  by_cases hlen : (blk m).length = (blk n).length
  · obtain ⟨N, hN⟩ : ∃ N, (blk n).length = N := ⟨_, rfl⟩
    have hM : (blk m).length = N := by omega
    have HEQ : Hid ((blk m) = (blk n) → cmpI m n = 0) := fun e => cmpI_eq (by rw [← blk_val m, e, blk_val])
    have HTOP : Hid (∀ j, (h1 : j < (blk m).length) → (h2 : j < (blk n).length) → (blk m).drop (j + 1) = (blk n).drop (j + 1) → ((blk m)[j] < (blk n)[j] → cmpI m n = -1) ∧ ((blk n)[j] < (blk m)[j] → cmpI m n = 1)) := fun j h1 h2 hd =>
      ⟨fun h => cmpI_lt (cmp_top hlen h1 hd h), fun h => cmpI_gt (cmp_top hlen.symm h2 hd.symm h)⟩
    generalize blk m = x at *
    generalize blk n = y at *
    rw [hM, hN]
    clear hlen hm
    rw [hN] at hn
    go_enter Tryz.func109, Tryz.ntmps109
    go_wp2_with fail
    go_loopw [4, 19] (fun _ i wr => ∃ (k : Nat), i = .int .i64 k ∧ k ≤ N ∧ Below w.heap.size w wr ∧ Hid (x.drop (N - k) = y.drop (N - k))) (fun _ i _ => N - (intOf i).toNat)
    case atStart => exact ⟨0, rfl, by omega, Below.refl _ _, by rw [Hid, Nat.sub_zero, List.drop_of_length_le (by omega), List.drop_of_length_le (by omega)]⟩
    case round =>
      obtain ⟨k, rfl, hk, hb, H⟩ := hrel
      by_cases hlt : k < N
      · obtain ⟨j, hj⟩ : ∃ j, N - 1 - k = j := ⟨_, rfl⟩
        have hjx : j < x.length := by omega
        have hjy : j < y.length := by omega
        obtain ⟨b1, o1, rfl, hbl1, hcell1⟩ := (hA.below hb) (by intro e; rw [List.map_eq_nil_iff] at e; rw [e] at hjx; simp at hjx)
        obtain ⟨b2, o2, rfl, hbl2, hcell2⟩ := (hB.below hb) (by intro e; rw [List.map_eq_nil_iff] at e; rw [e] at hjy; simp at hjy)
        have hc1 : wr.cell? ⟨b1, o1 + j, none⟩ = some (.int .u64 x[j]) := hcell1 j _ (getU hjx)
        have hc2 : wr.cell? ⟨b2, o2 + j, none⟩ = some (.int .u64 y[j]) := hcell2 j _ (getU hjy)
        have hd : x.drop (j + 1) = y.drop (j + 1) := by
          have := H.out
          rwa [show N - k = j + 1 by omega] at this
        have HT := HTOP.out j hjx hjy hd
        have hdx := List.drop_eq_getElem_cons hjx
        have hdy := List.drop_eq_getElem_cons hjy
        have cu : ∀ W, Calls Tryz.prog 128 #[.int .u64 x[j], .int .u64 y[j]] W fun e w' => e = .returned (.int .i64 (cmpI x[j] y[j])) ∧ W = w' := fun W => cmpU_any _ _ W
        clear hcell1 hcell2
        generalize x[j] = a at hc1 HT hdx cu
        generalize y[j] = b at hc2 HT hdy cu
        have w1 : IntKind.i64.wrap ((N : Int) - 1) = (N : Int) - 1 := by rw [wrapE, IntWalk.wrap64_in _ ⟨by omega, by omega⟩]
        have w2 : IntKind.i64.wrap ((N : Int) - 1 - (k : Int)) = ((j : Nat) : Int) := by rw [wrapE, IntWalk.wrap64_in _ ⟨by omega, by omega⟩]; omega
        have HJ := Lib.hid hj
        have jb0 : (0 : Int) ≤ (j : Int) := by omega
        have jb1 : (j : Int) < (N : Int) := by omega
        rcases Nat.lt_trichotomy a b with h | h | h
        · rw [cmpI_lt h] at cu
          have HK := Lib.hid (HT.1 h)
          clear HT hdx hdy h hd H hj
          go_wp2_with fail
          go_region_held3 (fun w' => w'.cell? ⟨b1, o1 + j, none⟩ = some (.int .u64 a) ∧ w'.cell? ⟨b2, o2 + j, none⟩ = some (.int .u64 b) ∧ Below wr.heap.size wr w') (first | assumption | exact ⟨hc1, hc2, (Below.refl _ _).drew⟩)
            (first | (go_at_call 128; refine (cu _).mono ?_; rintro e wx ⟨rfl, rfl⟩))
          all_goals go_wp2_with fail
          all_goals go_returns
          all_goals exact ⟨by rw [HK.out]; rfl, bstep hb (by first | assumption | exact (Below.refl _ _).drew)⟩
        · subst h
          rw [cmpI_eq rfl] at cu
          have HN : Hid (x.drop (N - (k + 1)) = y.drop (N - (k + 1))) := by rw [Hid, show N - (k + 1) = j by omega, hdx, hdy, hd]
          clear HT hdx hdy hd H hj
          go_wp2_with fail
          go_region_held3 (fun w' => w'.cell? ⟨b1, o1 + j, none⟩ = some (.int .u64 a) ∧ w'.cell? ⟨b2, o2 + j, none⟩ = some (.int .u64 a) ∧ Below wr.heap.size wr w') (first | assumption | exact ⟨hc1, hc2, (Below.refl _ _).drew⟩)
            (first | (go_at_call 128; refine (cu _).mono ?_; rintro e wx ⟨rfl, rfl⟩))
          all_goals go_wp2_with fail
          all_goals go_roundw
          all_goals first
            | (case rel => exact ⟨k + 1, by go_num, by omega, bstep hb (by first | assumption | exact (Below.refl _ _).drew), HN⟩)
            | (case measure => simp [intOf]; omega)
        · rw [cmpI_gt h] at cu
          have HK := Lib.hid (HT.2 h)
          clear HT hdx hdy h hd H hj
          go_wp2_with fail
          go_region_held3 (fun w' => w'.cell? ⟨b1, o1 + j, none⟩ = some (.int .u64 a) ∧ w'.cell? ⟨b2, o2 + j, none⟩ = some (.int .u64 b) ∧ Below wr.heap.size wr w') (first | assumption | exact ⟨hc1, hc2, (Below.refl _ _).drew⟩)
            (first | (go_at_call 128; refine (cu _).mono ?_; rintro e wx ⟨rfl, rfl⟩))
          all_goals go_wp2_with fail
          all_goals go_returns
          all_goals exact ⟨by rw [HK.out]; rfl, bstep hb (by first | assumption | exact (Below.refl _ _).drew)⟩
      · obtain rfl : k = N := by omega
        have HK : Hid (cmpI m n = 0) := HEQ.out (by
          have := H.out
          rwa [Nat.sub_self, List.drop_zero, List.drop_zero] at this)
        clear hA hB
        go_wp2_with fail
        go_returns
        exact ⟨by rw [HK.out]; rfl, hb⟩
  · have hd : ((((blk m).length : Nat) : Int) != (((blk n).length : Nat) : Int)) = true := by simp; omega
    have HK : Hid (Lib.compareInt (blk m).length (blk n).length = cmpI m n) := by
      rcases Nat.lt_or_ge (blk m).length (blk n).length with h | h
      · rw [Hid, cmpI_lt (cmp_len h)]; unfold Lib.compareInt; rw [if_pos (by omega)]
      · rw [Hid, cmpI_gt (cmp_len (show (blk n).length < (blk m).length by omega))]; unfold Lib.compareInt; rw [if_neg (by omega), if_pos (by omega)]
    clear hA hB
    go_enter Tryz.func109, Tryz.ntmps109
    go_wp2_with (go_at_call 127; refine (ci _ _ _).mono ?_; rintro e wx ⟨rfl, rfl⟩)
    go_returns
    exact ⟨by rw [← HK.out]; rfl, Below.refl _ _⟩
end Go.Proofs.YtfgmjdhoeilhcaaGreatDoor
