/- LettersOrder: the plain law of the order, and the law's walk. -/
import Derived.Test.YtbpfbceagdikoaaDoorAw
namespace Go.Proofs.YtbpfbceagdikoaaDoor
open Go.RowKit
set_option linter.unusedVariables false

theorem cmpL_bd : ∀ a b : Bs, cmpL a b = -1 ∨ cmpL a b = 0 ∨ cmpL a b = 1
  | [], [] => by simp [cmpL]
  | [], _ :: _ => by simp [cmpL]
  | _ :: _, [] => by simp [cmpL]
  | x :: r, y :: t => by
    unfold cmpL
    split
    · simp
    · split
      · simp
      · exact cmpL_bd r t
theorem cmpL_swap : ∀ a b : Bs, cmpL b a = -cmpL a b
  | [], [] => by simp [cmpL]
  | [], _ :: _ => by simp [cmpL]
  | _ :: _, [] => by simp [cmpL]
  | x :: r, y :: t => by
    unfold cmpL
    by_cases h1 : x < y
    · have h2 : ¬ y < x := by rw [UInt8.lt_iff_toNat_lt] at *; omega
      rw [if_pos h1, if_neg h2, if_pos h1]; rfl
    · by_cases h2 : y < x
      · rw [if_pos h2, if_neg h1, if_pos h2]
      · rw [if_neg h2, if_neg h1, if_neg h1, if_neg h2]; exact cmpL_swap r t
theorem cmpL_zero : ∀ a b : Bs, cmpL a b = 0 ↔ a = b
  | [], [] => by simp [cmpL]
  | [], _ :: _ => by simp [cmpL]
  | _ :: _, [] => by simp [cmpL]
  | x :: r, y :: t => by
    unfold cmpL
    by_cases h1 : x < y
    · rw [if_pos h1]
      have : x ≠ y := by intro e; subst e; rw [UInt8.lt_iff_toNat_lt] at h1; omega
      simp [this]
    · by_cases h2 : y < x
      · rw [if_neg h1, if_pos h2]
        have : x ≠ y := by intro e; subst e; rw [UInt8.lt_iff_toNat_lt] at h2; omega
        simp [this]
      · rw [if_neg h1, if_neg h2]
        have : x = y := UInt8.toNat_inj.1 (by rw [UInt8.lt_iff_toNat_lt] at *; omega)
        rw [cmpL_zero r t]; simp [this]
theorem cmpL_le : ∀ a b c : Bs, cmpL a b ≤ 0 → cmpL b c ≤ 0 → cmpL a c ≤ 0
  | [], b, [], _, _ => by simp [cmpL]
  | [], b, _ :: _, _, _ => by simp [cmpL]
  | _ :: _, [], _, h, _ => by simp [cmpL] at h
  | _ :: _, _ :: _, [], _, h => by simp [cmpL] at h
  | x :: r, y :: t, z :: u, h, h' => by
    unfold cmpL at h h' ⊢
    by_cases h1 : x < z
    · rw [if_pos h1]; decide
    · rw [if_neg h1]
      have e1 : ¬ y < x := fun hh => by
        rw [if_neg (by rw [UInt8.lt_iff_toNat_lt] at *; omega), if_pos hh] at h; exact absurd h (by decide)
      have e2 : ¬ z < y := fun hh => by
        rw [if_neg (by rw [UInt8.lt_iff_toNat_lt] at *; omega), if_pos hh] at h'; exact absurd h' (by decide)
      have e3 : ¬ z < x := by rw [UInt8.lt_iff_toNat_lt] at *; omega
      have e4 : ¬ x < y := by rw [UInt8.lt_iff_toNat_lt] at *; omega
      have e5 : ¬ y < z := by rw [UInt8.lt_iff_toNat_lt] at *; omega
      rw [if_neg e3]
      rw [if_neg e4, if_neg e1] at h
      rw [if_neg e5, if_neg e2] at h'
      exact cmpL_le r t u h h'
theorem cmpL_lt (a b c : Bs) (h : cmpL a b < 0) (h' : cmpL b c < 0) : cmpL a c < 0 := by
  have hle := cmpL_le a b c (by omega) (by omega)
  rcases cmpL_bd a c with e | e | e
  · omega
  · have := (cmpL_zero a c).1 e
    subst this
    have := cmpL_swap a b
    omega
  · omega

set_option maxHeartbeats 4000000 in
set_option maxRecDepth 100000 in
theorem order_law (a b c : ByteArray) (w : World) (hT : Tabs w) :
    Calls Tryd.prog 10 #[.string a, .string b, .string c] w fun e w' => e = .returned (.bool true) ∧ Below w.heap.size w w' := by
  have hA : Below w.heap.size w w := Below.refl _ _
  have big : (2000 < a.size ∨ 2000 < b.size ∨ 2000 < c.size) ∨ (a.size ≤ 2000 ∧ b.size ≤ 2000 ∧ c.size ≤ 2000) := by omega
  rcases big with hs | ⟨hs1, hs2, hs3⟩
  · go_enter Tryd.func10, Tryd.ntmps10
    go_wp2_with fail
    all_goals first
      | (go_at_call 17; refine (awake_any _ hT).mono ?_; rintro e w1 ⟨rfl, hb1⟩; go_wp2_with fail; go_returns; exact ⟨rfl, hb1⟩)
      | (exfalso; go_light; omega)
  · have k : ∀ (p q : ByteArray) (W : World), Calls Tryd.prog 16 #[.string p, .string q] W fun e w' => e = .returned (.int .i64 (cmpL p.data.toList q.data.toList)) ∧ Below W.heap.size W w' := fun p q W => by
      have h := compare_any p q W
      rwa [cmpL_eq] at h
    have kr := fun W => rcompare_any a b W (by omega) (by omega)
    have e1 := cmpL_swap a.data.toList b.data.toList
    have e2 := cmpL_zero a.data.toList b.data.toList
    have e3 := cmpL_le a.data.toList b.data.toList c.data.toList
    have e4 := cmpL_lt a.data.toList b.data.toList c.data.toList
    have e5 := cmpL_bd a.data.toList b.data.toList
    have k1 := k a b
    have k2 := k b c
    have k3 := k a c
    have k4 := k b a
    have e2' : a.data.toList = b.data.toList ↔ a = b := ⟨fun h => by cases a; cases b; simp at h; simp [h], fun h => by rw [h]⟩
    rw [e2'] at e2
    have hq : (a.toList == b.toList) = decide (cmpL a.data.toList b.data.toList = 0) := by
      rw [Lib.toList_data, Lib.toList_data]
      by_cases h : a.data.toList = b.data.toList
      · rw [decide_eq_true (e2.2 (e2'.1 h)), h]; simp
      · rw [decide_eq_false (fun hh => h (e2'.2 (e2.1 hh)))]; simpa using h
    clear k e2' e2
    generalize cmpL a.data.toList b.data.toList = x at *
    generalize cmpL b.data.toList c.data.toList = y at *
    generalize cmpL a.data.toList c.data.toList = z at *
    generalize cmpL b.data.toList a.data.toList = u at *
    subst e1
    rcases e5 with rfl | rfl | rfl
    all_goals
      first
        | replace hq : (a.toList == b.toList) = false := hq
        | replace hq : (a.toList == b.toList) = true := hq
      go_enter Tryd.func10, Tryd.ntmps10
      go_wp2_with fail
      refine (k1 _).mono ?_
      rintro e w1 ⟨rfl, hb1⟩
      have hA1 := bstep hA hb1
      go_wp2_with fail
      refine (k2 _).mono ?_
      rintro e w2 ⟨rfl, hb2⟩
      have hA2 := bstep hA1 hb2
      go_wp2_with fail
      refine (k3 _).mono ?_
      rintro e w3 ⟨rfl, hb3⟩
      have hA3 := bstep hA2 hb3
      go_wp2_with fail
      refine (kr _).mono ?_
      rintro e w4 ⟨rfl, hb4⟩
      have hA4 := bstep hA3 hb4
      go_wp2_with fail
      refine (k4 _).mono ?_
      rintro e w5 ⟨rfl, hb5⟩
      have hA5 := bstep hA4 hb5
      have aw := awake_any _ (hT.below hA5)
      clear k1 k2 k3 k4 kr
      go_wp2_with fail
      all_goals first
        | (go_at_call 17; refine aw.mono ?_; rintro e w6 ⟨rfl, hb6⟩; have hA6 := bstep hA5 hb6; go_wp2_with fail; go_returns; exact ⟨rfl, hA6⟩)
        | (exfalso; go_light; simp at *; omega)
end Go.Proofs.YtbpfbceagdikoaaDoor
