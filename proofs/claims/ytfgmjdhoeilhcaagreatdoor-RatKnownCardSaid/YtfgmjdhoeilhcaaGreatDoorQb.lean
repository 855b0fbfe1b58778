/- Walks: text of a number, quotient, plus, reduce. -/
import Derived.Test.YtfgmjdhoeilhcaaGreatDoorQa
namespace Go.Proofs.YtfgmjdhoeilhcaaGreatDoor
open Go.RowKit
set_option linter.unusedVariables false

/-- the text of a number's parts -/
def numT (neg : Bool) (n d : Bs) : Bs := (if neg = true then [45] else []) ++ (n ++ (if d = [49] then [] else 47 :: d))
theorem isOne {D : ByteArray} : (D.toList == [49]) = decide (D.data.toList = [49]) := by
  rw [Lib.toList_data]
  by_cases h : D.data.toList = [49]
  · rw [h]; rfl
  · rw [beq_eq_false_iff_ne.2 h, decide_eq_false h]

set_option maxHeartbeats 2000000 in
set_option maxRecDepth 100000 in
theorem ntext_any (neg : Bool) (A D : ByteArray) (w : World) (hA : A.size ≤ 1000000) (hD : D.size ≤ 1000000) :
    Calls Tryz.prog 64 #[.agg #[.bool neg, .string A, .string D]] w fun e w' => e = .returned (.string ⟨(numT neg A.data.toList D.data.toList).toArray⟩) ∧ Below w.heap.size w w' := by
  have h1 := isOne (D := D)
  have s45 : (⟨#[45]⟩ : ByteArray).size = 1 := rfl
  have s47 : (⟨#[47]⟩ : ByteArray).size = 1 := rfl
  have hc1 : ¬ 9223372036854775807 < 1 + A.size := by omega
  have hc2 : ¬ 9223372036854775807 < 1 + D.size := by omega
  have hc3 : ¬ 9223372036854775807 < A.size + (1 + D.size) := by omega
  have hc4 : ¬ 9223372036854775807 < 1 + A.size + (1 + D.size) := by omega
  have hb0 : Below w.heap.size w (w.alloc (.cells #[.bool neg, .string A, .string D] 43)) := (Below.refl _ w).alloc (Nat.le_refl _) _
  by_cases hd : D.data.toList = [49]
  · rw [decide_eq_true hd] at h1
    have HR : Hid (numT neg A.data.toList D.data.toList = (if neg = true then [45] else []) ++ A.data.toList) := by unfold Hid numT; rw [if_pos hd, List.append_nil]
    clear hd
    cases neg with
    | true =>
      go_enter Tryz.func64, Tryz.ntmps64
      go_wp2_with fail
      go_returns
      exact ⟨ret_str (by rw [HR.out, Joins.data_append]; rfl), hb0⟩
    | false =>
      go_enter Tryz.func64, Tryz.ntmps64
      go_wp2_with fail
      go_returns
      exact ⟨ret_str (by rw [HR.out]; rfl), hb0⟩
  · rw [decide_eq_false hd] at h1
    have HR : Hid (numT neg A.data.toList D.data.toList = (if neg = true then [45] else []) ++ (A.data.toList ++ (47 :: D.data.toList))) := by unfold Hid numT; rw [if_neg hd]
    clear hd
    cases neg with
    | true =>
      go_enter Tryz.func64, Tryz.ntmps64
      go_wp2_with fail
      go_returns
      exact ⟨ret_str (by rw [HR.out, Joins.data_append, Joins.data_append, Joins.data_append]; rfl), hb0⟩
    | false =>
      go_enter Tryz.func64, Tryz.ntmps64
      go_wp2_with fail
      go_returns
      exact ⟨ret_str (by rw [HR.out, Joins.data_append, Joins.data_append]; rfl), hb0⟩
set_option maxHeartbeats 1000000 in
set_option maxRecDepth 100000 in
theorem quot_any (a b : ByteArray) (m n : Nat) (w : World) (hT : Tabs w) (ha : a.data.toList = decT m) (hb : b.data.toList = decT n) (sa : a.size ≤ 1000) (sb : b.size ≤ 1000) (hn : n ≠ 0) :
    Calls Tryz.prog 65 #[.string a, .string b] w fun e w' => e = .returned (.string ⟨(decT (m / n)).toArray⟩) ∧ Below w.heap.size w w' := by
  have hd := ndiv_any a b w hT (by omega) (by omega)
  rw [natDiv_dec ha hb (by rw [← Lib.size_eq]; exact sa) (by rw [← Lib.size_eq]; exact sb) hn] at hd
  unfold Txt2Post at hd
  obtain ⟨F, hF⟩ : ∃ F : ByteArray, (⟨(decT (m / n)).toArray⟩ : ByteArray) = F := ⟨_, rfl⟩
  obtain ⟨G, hG⟩ : ∃ G : ByteArray, (⟨(decT (m % n)).toArray⟩ : ByteArray) = G := ⟨_, rfl⟩
  simp only [hF, hG] at hd ⊢
  clear hF hG
  have hm := fun W => must_ok F W
  go_enter Tryz.func65, Tryz.ntmps65
  go_wp2_with (first | (go_at_call 93; refine hd.mono ?_; rintro e w1 ⟨rfl, b1⟩) | (go_at_call 51; refine (hm _).mono ?_; rintro e w2 ⟨rfl, rfl⟩))
  go_returns
  exact ⟨rfl, b1⟩
theorem natAdd_dec {l k : Bs} {m n : Nat} (hl : l = decT m) (hk : k = decT n) (h1 : l.length ≤ 1000) (h2 : k.length ≤ 1000) (h3 : (decT (m + n)).length ≤ 1000) : natAdd l k = (decT (m + n), 0) := by
  subst hl hk
  unfold natAdd limN
  rw [if_pos ⟨okN_dec h1, okN_dec h2⟩, decV_decT, decV_decT, if_neg (by omega)]
theorem natMul_dec {l k : Bs} {m n : Nat} (hl : l = decT m) (hk : k = decT n) (h1 : l.length ≤ 1000) (h2 : k.length ≤ 1000) (h3 : (decT (m * n)).length ≤ 1000) : natMul l k = (decT (m * n), 0) := by
  subst hl hk
  unfold natMul limN
  rw [if_pos ⟨okN_dec h1, okN_dec h2⟩, decV_decT, decV_decT, if_neg (by omega)]
theorem natSub_dec {l k : Bs} {m n : Nat} (hl : l = decT m) (hk : k = decT n) (h1 : l.length ≤ 1000) (h2 : k.length ≤ 1000) (h3 : n ≤ m) : natSub l k = (decT (m - n), 0) := by
  subst hl hk
  unfold natSub
  rw [if_pos ⟨okN_dec h1, okN_dec h2⟩, decV_decT, decV_decT, if_neg (by omega)]
theorem natCmp_dec {l k : Bs} {m n : Nat} (hl : l = decT m) (hk : k = decT n) (h1 : l.length ≤ 1000) (h2 : k.length ≤ 1000) : natCmp l k = cmpI m n := by
  subst hl hk
  unfold natCmp
  rw [if_pos ⟨okN_dec h1, okN_dec h2⟩, decV_decT, decV_decT]
theorem natGcd_dec {l k : Bs} {m n : Nat} (hl : l = decT m) (hk : k = decT n) (h1 : l.length ≤ 1000) (h2 : k.length ≤ 1000) : natGcd l k = (decT (Nat.gcd m n), 0) := by
  subst hl hk
  unfold natGcd
  rw [if_pos ⟨okN_dec h1, okN_dec h2⟩, decV_decT, decV_decT]
/-- what a call answers that hands on a text -/
def StrPost (w : World) (l : Bs) (e : Ending) (w' : World) : Prop := e = .returned (.string ⟨l.toArray⟩) ∧ Below w.heap.size w w'

set_option maxHeartbeats 2000000 in
set_option maxRecDepth 100000 in
theorem rplus_any (s t : Bool) (a b : ByteArray) (m n : Nat) (w : World) (hT : Tabs w) (ha : a.data.toList = decT m) (hb : b.data.toList = decT n) (sa : a.size ≤ 1000) (sb : b.size ≤ 1000) (hs : (decT (m + n)).length ≤ 1000) :
    Calls Tryz.prog 50 #[.bool s, .string a, .bool t, .string b] w fun e w' => e = .returned (.tuple #[.bool (addS s m t n).1, .string ⟨(decT (addS s m t n).2).toArray⟩]) ∧ Below w.heap.size w w' := by
  have la : a.data.toList.length ≤ 1000 := by rw [← Lib.size_eq]; exact sa
  have lb : b.data.toList.length ≤ 1000 := by rw [← Lib.size_eq]; exact sb
  by_cases hst : s = t
  · have hq := nadd_any a b w hT (by omega) (by omega)
    rw [natAdd_dec ha hb la lb hs] at hq
    unfold TxtPost at hq
    have HA : Hid (addS s m t n = (s, m + n)) := by unfold Hid addS; rw [if_pos hst]
    obtain ⟨F, hF⟩ : ∃ F : ByteArray, (⟨(decT (m + n)).toArray⟩ : ByteArray) = F := ⟨_, rfl⟩
    simp only [hF] at hq
    have HF := Lib.hid hF
    have hm := fun W => must_ok F W
    subst hst
    clear hF la lb ha hb hs
    go_enter Tryz.func50, Tryz.ntmps50
    go_wp2_with (first | (go_at_call 80; refine hq.mono ?_; rintro e w1 ⟨rfl, b1⟩) | (go_at_call 51; refine (hm _).mono ?_; rintro e w2 ⟨rfl, rfl⟩))
    go_returns
    exact ⟨by rw [HA.out, HF.out]; rfl, b1⟩
  · have hst2 : (s == t) = false := beq_eq_false_iff_ne.2 hst
    have hc := ncmp_any a b w (by omega) (by omega)
    rw [natCmp_dec ha hb la lb] at hc
    rcases Nat.lt_or_ge m n with hlt | hge
    · rw [cmpI_lt hlt] at hc
      have HA : Hid (addS s m t n = (t, n - m)) := by unfold Hid addS; rw [if_neg hst, if_pos hlt]
      have hq := fun W hT => nsub_any b a W hT (by omega) (by omega)
      rw [natSub_dec hb ha lb la (by omega)] at hq
      unfold TxtPost at hq
      obtain ⟨F, hF⟩ : ∃ F : ByteArray, (⟨(decT (n - m)).toArray⟩ : ByteArray) = F := ⟨_, rfl⟩
      simp only [hF] at hq
      have HF := Lib.hid hF
      have hm := fun W => must_ok F W
      clear hF la lb ha hb hs hst
      go_enter Tryz.func50, Tryz.ntmps50
      go_wp2_with (first | (go_at_call 81; refine hc.mono ?_; rintro e w1 ⟨rfl, b1⟩; have hq1 := hq _ (hT.below b1)) | (go_at_call 82; refine hq1.mono ?_; rintro e w2 ⟨rfl, b2⟩; have hA2 := bstep b1 b2) | (go_at_call 51; refine (hm _).mono ?_; rintro e w2 ⟨rfl, rfl⟩))
      go_returns
      exact ⟨by rw [HA.out, HF.out]; rfl, hA2⟩
    · have hcge : ¬ cmpI m n < 0 := by rw [cmpI_neg]; omega
      obtain ⟨cc, hcc⟩ : ∃ cc, cmpI m n = cc := ⟨_, rfl⟩
      rw [hcc] at hc hcge
      have HA : Hid (addS s m t n = (s, m - n)) := by unfold Hid addS; rw [if_neg hst, if_neg (by omega)]
      have hq := fun W hT => nsub_any a b W hT (by omega) (by omega)
      rw [natSub_dec ha hb la lb (by omega)] at hq
      unfold TxtPost at hq
      obtain ⟨F, hF⟩ : ∃ F : ByteArray, (⟨(decT (m - n)).toArray⟩ : ByteArray) = F := ⟨_, rfl⟩
      simp only [hF] at hq
      have HF := Lib.hid hF
      have hm := fun W => must_ok F W
      have hc0 : 0 ≤ cc := by omega
      clear hF la lb ha hb hs hst hcc hcge
      go_enter Tryz.func50, Tryz.ntmps50
      go_wp2_with (first | (go_at_call 81; refine hc.mono ?_; rintro e w1 ⟨rfl, b1⟩; have hq1 := hq _ (hT.below b1)) | (go_at_call 82; refine hq1.mono ?_; rintro e w2 ⟨rfl, b2⟩; have hA2 := bstep b1 b2) | (go_at_call 51; refine (hm _).mono ?_; rintro e w2 ⟨rfl, rfl⟩))
      go_returns
      exact ⟨by rw [HA.out, HF.out]; rfl, hA2⟩
end Go.Proofs.YtfgmjdhoeilhcaaGreatDoor
