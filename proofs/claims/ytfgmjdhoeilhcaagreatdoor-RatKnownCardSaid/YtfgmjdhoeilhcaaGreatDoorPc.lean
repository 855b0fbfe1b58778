/- Walks of the reference of rat: Make of any texts, Cmp, Neg, Add, Sub, Mul, Div. -/
import Derived.Test.YtfgmjdhoeilhcaaGreatDoorPb
namespace Go.Proofs.YtfgmjdhoeilhcaaGreatDoor
open Go.RowKit
set_option linter.unusedVariables false

theorem ratMake_dec {neg : Bool} {m n : Nat} (h1 : (decT m).length ≤ 1000) (h2 : (decT n).length ≤ 1000) (hn : n ≠ 0) : ratMake neg (decT m) (decT n) = mkT neg m n := by
  unfold ratMake
  rw [if_pos, decV_decT, decV_decT]
  refine ⟨okN_dec h1, okN_dec h2, fun e => hn ?_⟩
  rw [← decV_decT n, e]; rfl
set_option maxHeartbeats 2000000 in
set_option maxRecDepth 100000 in
theorem pmakeR_any (neg : Bool) (A D : ByteArray) (w : World) (hA : A.size ≤ 1000000) (hD : D.size ≤ 1000000) :
    Calls Tryz.prog 16 #[.bool neg, .string A, .string D] w (TxtPost w (ratMake neg A.data.toList D.data.toList)) := by
  have hb0 : Below w.heap.size w w := Below.refl _ _
  have vA := fun W => rvalid_any A W (by omega)
  have vD := fun W => rvalid_any D W (by omega)
  cases h1 : okN A.data.toList with
  | false =>
    have HK : Hid (ratMake neg A.data.toList D.data.toList = ([], 1)) := by unfold Hid ratMake; rw [if_neg]; rw [h1]; simp
    rw [h1] at vA
    clear h1
    go_enter Tryz.func16, Tryz.ntmps16
    go_wp2_with (first | (go_at_call_of 41 (Value.string A); refine (vA _).mono ?_; rintro e w2 ⟨rfl, rfl⟩) | (go_at_call_of 41 (Value.string D); refine (vD _).mono ?_; rintro e w2 ⟨rfl, rfl⟩))
    go_returns
    unfold TxtPost
    rw [HK.out]
    exact ⟨rfl, hb0⟩
  | true =>
    rw [h1] at vA
    cases h2 : okN D.data.toList with
    | false =>
      have HK : Hid (ratMake neg A.data.toList D.data.toList = ([], 1)) := by unfold Hid ratMake; rw [if_neg]; rw [h2]; simp
      rw [h2] at vD
      clear h1 h2
      go_enter Tryz.func16, Tryz.ntmps16
      go_wp2_with (first | (go_at_call_of 41 (Value.string A); refine (vA _).mono ?_; rintro e w2 ⟨rfl, rfl⟩) | (go_at_call_of 41 (Value.string D); refine (vD _).mono ?_; rintro e w2 ⟨rfl, rfl⟩))
      go_returns
      unfold TxtPost
      rw [HK.out]
      exact ⟨rfl, hb0⟩
    | true =>
      rw [h2] at vD
      by_cases hz : D = ⟨#[48]⟩
      · have HK : Hid (ratMake neg A.data.toList D.data.toList = ([], 1)) := by unfold Hid ratMake; rw [if_neg]; rw [hz]; simp
        have hbeq : (D.toList == [48]) = true := by rw [hz, Lib.toList_data]; rfl
        clear h1 h2 hz
        go_enter Tryz.func16, Tryz.ntmps16
        go_wp2_with (first | (go_at_call_of 41 (Value.string A); refine (vA _).mono ?_; rintro e w2 ⟨rfl, rfl⟩) | (go_at_call_of 41 (Value.string D); refine (vD _).mono ?_; rintro e w2 ⟨rfl, rfl⟩))
        go_returns
        unfold TxtPost
        rw [HK.out]
        exact ⟨rfl, hb0⟩
      · have hz2 : D.data.toList ≠ [48] := fun e => hz (str48 e)
        have hK : ratMake neg A.data.toList D.data.toList = mkT neg (decV A.data.toList) (decV D.data.toList) := by unfold ratMake; rw [if_pos ⟨h1, h2, hz2⟩]
        have tA := decT_decV ((okN_iff _).1 h1).1
        have tD := decT_decV ((okN_iff _).1 h2).1
        have hn : decV D.data.toList ≠ 0 := fun e => hz2 ((okT_zero ((okN_iff _).1 h2).1).1 e)
        rw [hK]
        exact pmake_any neg A D _ _ w tA.symm tD.symm (okN_size h1) (okN_size h2) hn
/-- Parts of a text that is no number, of one that is -/
theorem pparts_no (s : ByteArray) (w : World) (hs : s.size ≤ 100000) (h : ratV s.data.toList = none) :
    Calls Tryz.prog 13 #[.string s] w fun e w' => e = .returned (.tuple #[.bool false, .string ⟨#[]⟩, .string ⟨#[]⟩, .bool false]) ∧ Below w.heap.size w w' := by
  have hp := pparts_any s w hs
  rw [partV_no (ratP_of_none h)] at hp
  exact hp
theorem pparts_yes (s A D : ByteArray) (p : Bool) (w : World) (hs : s.size ≤ 100000) (h : ratP s.data.toList = some (p, A.data.toList, D.data.toList)) :
    Calls Tryz.prog 13 #[.string s] w fun e w' => e = .returned (.tuple #[.bool p, .string A, .string D, .bool true]) ∧ Below w.heap.size w w' := by
  have hp := pparts_any s w hs
  rw [partV_yes h] at hp
  exact hp
theorem mkT_neg (x : Rat) : mkT (!decide (x.num < 0)) x.num.natAbs x.den = limR (-x) := by
  unfold mkT
  rw [sgn_not, ← Rat.neg_mkRat, rat_self]
set_option maxHeartbeats 2000000 in
set_option maxRecDepth 100000 in
theorem pneg_any (a : ByteArray) (w : World) (ha : a.size ≤ 100000) :
    Calls Tryz.prog 20 #[.string a] w (TxtPost w (ratNeg a.data.toList)) := by
  cases hu : ratV a.data.toList with
  | none =>
    have HK : Hid (ratNeg a.data.toList = ([], 1)) := by unfold Hid ratNeg ratSub ratOp; rw [ratV_zero, hu]
    have pa := fun W => pparts_no a W ha hu
    clear hu
    go_enter Tryz.func20, Tryz.ntmps20
    go_wp2_with (go_at_call 13; refine (pa _).mono ?_; rintro e w1 ⟨rfl, b1⟩)
    go_returns
    unfold TxtPost
    rw [HK.out]
    exact ⟨rfl, b1⟩
  | some x =>
    obtain ⟨A, D, hpA, hNA⟩ := num_of hu
    have HK : Hid (ratNeg a.data.toList = mkT (!decide (x.num < 0)) x.num.natAbs x.den) := by
      unfold Hid ratNeg ratSub ratOp
      rw [ratV_zero, hu, mkT_neg]
      show limR (0 - x) = _
      rw [Rat.sub_eq_add_neg, Rat.zero_add]
    have pa := fun W => pparts_yes a A D _ W ha hpA
    have pm := fun W => pmake_any (!decide (x.num < 0)) A D _ _ W hNA.a hNA.d (by have := hNA.sa; omega) (by have := hNA.sd; omega) hNA.nz
    generalize x.num.natAbs = m at *
    generalize decide (x.num < 0) = p at *
    generalize x.den = d at *
    clear hu hpA hNA
    go_enter Tryz.func20, Tryz.ntmps20
    go_wp2_with (first
      | (go_at_call 13; refine (pa _).mono ?_; rintro e w1 ⟨rfl, b1⟩)
      | (go_at_call 16; refine (pm _).mono ?_; rintro e w2 ⟨rfl, b2⟩; have hA2 := bstep b1 b2))
    go_returns
    unfold TxtPost
    rw [HK.out]
    exact ⟨rfl, hA2⟩
set_option maxHeartbeats 2000000 in
set_option maxRecDepth 100000 in
theorem padd_bad (a b : ByteArray) (w : World) (ha : a.size ≤ 100000) (hb : b.size ≤ 100000) (h : ratV a.data.toList = none ∨ ratV b.data.toList = none) :
    Calls Tryz.prog 27 #[.string a, .string b] w fun e w' => e = .returned (if "add" = "cmp" then .int .i64 0 else .tuple #[.string ⟨#[]⟩, .int .i64 1]) ∧ Below w.heap.size w w' := by
  have pa := fun W => pparts_any a W ha
  have pb := fun W => pparts_any b W hb
  unfold partV at pa pb
  have hok : (ratP a.data.toList).isSome = false ∨ (ratP b.data.toList).isSome = false := by
    rw [ratV_isSome, ratV_isSome]
    rcases h with h | h
    · left; rw [h]; rfl
    · right; rw [h]; rfl
  generalize (ratP a.data.toList).isSome = o1 at *
  generalize (ratP b.data.toList).isSome = o2 at *
  generalize (ratP a.data.toList).getD (false, [], []) = x at *
  generalize (ratP b.data.toList).getD (false, [], []) = y at *
  clear h
  cases o1 with
  | false =>
    clear hok
    go_enter Tryz.func27, Tryz.ntmps27
    go_wp2_with (first
      | (go_at_call_of 13 (Value.string a); refine (pa _).mono ?_; rintro e w1 ⟨rfl, b1⟩)
      | (go_at_call_of 13 (Value.string b); refine (pb _).mono ?_; rintro e w2 ⟨rfl, b2⟩; have hA2 := bstep b1 b2))
    go_returns
    first
      | exact ⟨rfl, hA2⟩
      | (have hA1 := b1; refine (pb _).mono ?_)
  | true =>
    obtain rfl : o2 = false := by simpa using hok
    clear hok
    go_enter Tryz.func27, Tryz.ntmps27
    go_wp2_with fail
    refine (pa _).mono ?_
    rintro e w1 ⟨rfl, b1⟩
    go_wp2_with fail
    refine (pb _).mono ?_
    rintro e w2 ⟨rfl, b2⟩
    have hA2 := bstep b1 b2
    go_wp2_with fail
    go_returns
    exact ⟨rfl, hA2⟩
set_option maxHeartbeats 2000000 in
set_option maxRecDepth 100000 in
theorem pcmp_bad (a b : ByteArray) (w : World) (ha : a.size ≤ 100000) (hb : b.size ≤ 100000) (h : ratV a.data.toList = none ∨ ratV b.data.toList = none) :
    Calls Tryz.prog 22 #[.string a, .string b] w fun e w' => e = .returned (if "cmp" = "cmp" then .int .i64 0 else .tuple #[.string ⟨#[]⟩, .int .i64 1]) ∧ Below w.heap.size w w' := by
  have pa := fun W => pparts_any a W ha
  have pb := fun W => pparts_any b W hb
  unfold partV at pa pb
  have hok : (ratP a.data.toList).isSome = false ∨ (ratP b.data.toList).isSome = false := by
    rw [ratV_isSome, ratV_isSome]
    rcases h with h | h
    · left; rw [h]; rfl
    · right; rw [h]; rfl
  generalize (ratP a.data.toList).isSome = o1 at *
  generalize (ratP b.data.toList).isSome = o2 at *
  generalize (ratP a.data.toList).getD (false, [], []) = x at *
  generalize (ratP b.data.toList).getD (false, [], []) = y at *
  clear h
  cases o1 with
  | false =>
    clear hok
    go_enter Tryz.func22, Tryz.ntmps22
    go_wp2_with (first
      | (go_at_call_of 13 (Value.string a); refine (pa _).mono ?_; rintro e w1 ⟨rfl, b1⟩)
      | (go_at_call_of 13 (Value.string b); refine (pb _).mono ?_; rintro e w2 ⟨rfl, b2⟩; have hA2 := bstep b1 b2))
    go_returns
    first
      | exact ⟨rfl, hA2⟩
      | (have hA1 := b1; refine (pb _).mono ?_)
  | true =>
    obtain rfl : o2 = false := by simpa using hok
    clear hok
    go_enter Tryz.func22, Tryz.ntmps22
    go_wp2_with fail
    refine (pa _).mono ?_
    rintro e w1 ⟨rfl, b1⟩
    go_wp2_with fail
    refine (pb _).mono ?_
    rintro e w2 ⟨rfl, b2⟩
    have hA2 := bstep b1 b2
    go_wp2_with fail
    go_returns
    exact ⟨rfl, hA2⟩
set_option maxHeartbeats 2000000 in
set_option maxRecDepth 100000 in
theorem pmul_bad (a b : ByteArray) (w : World) (ha : a.size ≤ 100000) (hb : b.size ≤ 100000) (h : ratV a.data.toList = none ∨ ratV b.data.toList = none) :
    Calls Tryz.prog 29 #[.string a, .string b] w fun e w' => e = .returned (if "mul" = "cmp" then .int .i64 0 else .tuple #[.string ⟨#[]⟩, .int .i64 1]) ∧ Below w.heap.size w w' := by
  have pa := fun W => pparts_any a W ha
  have pb := fun W => pparts_any b W hb
  unfold partV at pa pb
  have hok : (ratP a.data.toList).isSome = false ∨ (ratP b.data.toList).isSome = false := by
    rw [ratV_isSome, ratV_isSome]
    rcases h with h | h
    · left; rw [h]; rfl
    · right; rw [h]; rfl
  generalize (ratP a.data.toList).isSome = o1 at *
  generalize (ratP b.data.toList).isSome = o2 at *
  generalize (ratP a.data.toList).getD (false, [], []) = x at *
  generalize (ratP b.data.toList).getD (false, [], []) = y at *
  clear h
  cases o1 with
  | false =>
    clear hok
    go_enter Tryz.func29, Tryz.ntmps29
    go_wp2_with (first
      | (go_at_call_of 13 (Value.string a); refine (pa _).mono ?_; rintro e w1 ⟨rfl, b1⟩)
      | (go_at_call_of 13 (Value.string b); refine (pb _).mono ?_; rintro e w2 ⟨rfl, b2⟩; have hA2 := bstep b1 b2))
    go_returns
    first
      | exact ⟨rfl, hA2⟩
      | (have hA1 := b1; refine (pb _).mono ?_)
  | true =>
    obtain rfl : o2 = false := by simpa using hok
    clear hok
    go_enter Tryz.func29, Tryz.ntmps29
    go_wp2_with fail
    refine (pa _).mono ?_
    rintro e w1 ⟨rfl, b1⟩
    go_wp2_with fail
    refine (pb _).mono ?_
    rintro e w2 ⟨rfl, b2⟩
    have hA2 := bstep b1 b2
    go_wp2_with fail
    go_returns
    exact ⟨rfl, hA2⟩
set_option maxHeartbeats 2000000 in
set_option maxRecDepth 100000 in
theorem pdiv_bad (a b : ByteArray) (w : World) (ha : a.size ≤ 100000) (hb : b.size ≤ 100000) (h : ratV a.data.toList = none ∨ ratV b.data.toList = none) :
    Calls Tryz.prog 30 #[.string a, .string b] w fun e w' => e = .returned (if "div" = "cmp" then .int .i64 0 else .tuple #[.string ⟨#[]⟩, .int .i64 1]) ∧ Below w.heap.size w w' := by
  have pa := fun W => pparts_any a W ha
  have pb := fun W => pparts_any b W hb
  unfold partV at pa pb
  have hok : (ratP a.data.toList).isSome = false ∨ (ratP b.data.toList).isSome = false := by
    rw [ratV_isSome, ratV_isSome]
    rcases h with h | h
    · left; rw [h]; rfl
    · right; rw [h]; rfl
  generalize (ratP a.data.toList).isSome = o1 at *
  generalize (ratP b.data.toList).isSome = o2 at *
  generalize (ratP a.data.toList).getD (false, [], []) = x at *
  generalize (ratP b.data.toList).getD (false, [], []) = y at *
  clear h
  cases o1 with
  | false =>
    clear hok
    go_enter Tryz.func30, Tryz.ntmps30
    go_wp2_with (first
      | (go_at_call_of 13 (Value.string a); refine (pa _).mono ?_; rintro e w1 ⟨rfl, b1⟩)
      | (go_at_call_of 13 (Value.string b); refine (pb _).mono ?_; rintro e w2 ⟨rfl, b2⟩; have hA2 := bstep b1 b2))
    go_returns
    first
      | exact ⟨rfl, hA2⟩
      | (have hA1 := b1; refine (pb _).mono ?_)
  | true =>
    obtain rfl : o2 = false := by simpa using hok
    clear hok
    go_enter Tryz.func30, Tryz.ntmps30
    go_wp2_with fail
    refine (pa _).mono ?_
    rintro e w1 ⟨rfl, b1⟩
    go_wp2_with fail
    refine (pb _).mono ?_
    rintro e w2 ⟨rfl, b2⟩
    have hA2 := bstep b1 b2
    go_wp2_with fail
    go_returns
    exact ⟨rfl, hA2⟩
end Go.Proofs.YtfgmjdhoeilhcaaGreatDoor
