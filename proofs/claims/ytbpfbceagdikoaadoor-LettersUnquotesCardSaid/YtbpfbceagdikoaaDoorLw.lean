/- LettersUnquotes: the law's walk. -/
import Derived.Test.YtbpfbceagdikoaaDoorAw
import Derived.Test.YtbpfbceagdikoaaDoorLv
namespace Go.Proofs.YtbpfbceagdikoaaDoor
open Go.RowKit
set_option linter.unusedVariables false

theorem refT_len : ∀ (k : Nat) (l : Bs), (refT k l).length ≤ l.length
  | 0, l => by simp [refT]
  | k + 1, l => by
    show (if l = [] then [] else (stepR l).1 :: refT k (l.drop (stepR l).2)).length ≤ l.length
    by_cases h : l = []
    · rw [if_pos h]; simp
    · have hl := List.length_pos_iff.2 h
      have hp := stepR_pos l
      have := refT_len k (l.drop (stepR l).2)
      rw [List.length_drop] at this
      rw [if_neg h, List.length_cons]
      omega
theorem unquote_some {l n : Bs} (h : unquoteL l = some n) : quoteL n = l ∧ n.length ≤ l.length := by
  rw [← refU_eq] at h
  unfold refU at h
  by_cases h0 : l = [37, 48]
  · rw [if_pos h0] at h
    obtain rfl := Option.some.inj h
    subst h0
    exact ⟨rfl, by simp⟩
  · rw [if_neg h0] at h
    by_cases h1 : refR l = [] ∨ quoteL (refR l) ≠ l
    · rw [if_pos h1] at h; cases h
    · rw [if_neg h1] at h
      obtain rfl := Option.some.inj h
      exact ⟨Decidable.not_not.1 fun hh => h1 (Or.inr hh), refT_len _ _⟩

set_option maxHeartbeats 4000000 in
set_option maxRecDepth 100000 in
theorem unquotes_law (s : ByteArray) (w : World) (hT : Tabs w) :
    Calls Tryd.prog 8 #[.string s] w fun e w' => e = .returned (.bool true) ∧ Below w.heap.size w w' := by
  have hA : Below w.heap.size w w := Below.refl _ _
  rcases Nat.lt_or_ge 2000 s.size with hs | hs
  · go_enter Tryd.func8, Tryd.ntmps8
    go_wp2_with fail
    all_goals first
      | (go_at_call 17; refine (awake_any _ hT).mono ?_; rintro e w1 ⟨rfl, hb1⟩; go_wp2_with fail; go_returns; exact ⟨rfl, hb1⟩)
      | (exfalso; go_light; omega)
  · have k1 := unquote_any s w hT (by omega)
    have k2 := fun W => runquote_any s W (by omega)
    cases hu : unquoteL s.data.toList with
    | none =>
      rw [hu] at k1 k2
      have e1 : unqS none = [] := rfl
      have e2 : unqE none = 3 := rfl
      rw [e1, e2] at k1 k2
      clear hu e1 e2
      go_enter Tryd.func8, Tryd.ntmps8
      go_wp2_with fail
      refine k1.mono ?_
      rintro e w1 ⟨rfl, hb1⟩
      have hA1 := bstep hA hb1
      go_wp2_with fail
      refine (k2 _).mono ?_
      rintro e w2 ⟨rfl, hb2⟩
      have hA2 := bstep hA1 hb2
      go_wp2_with (go_at_call 17; refine (awake_any _ (hT.below hA2)).mono ?_; rintro e w6 ⟨rfl, hb6⟩; have hA5 := bstep hA2 hb6)
      all_goals go_returns
      all_goals exact ⟨rfl, hA5⟩
    | some n =>
      obtain ⟨hq, hl⟩ := unquote_some hu
      rw [hu] at k1 k2
      have e1 : unqS (some n) = n := rfl
      have e2 : unqE (some n) = 0 := rfl
      rw [e1, e2] at k1 k2
      rw [← Lib.size_eq] at hl
      obtain ⟨t, ht⟩ : ∃ t : ByteArray, (⟨n.toArray⟩ : ByteArray) = t := ⟨_, rfl⟩
      have hts : t.size ≤ 2000 := by rw [← ht, Lib.size_eq]; show n.length ≤ 2000; omega
      have htd : t.data.toList = n := by rw [← ht]
      have k3 := fun W hW => quote_any t W hW (by omega)
      have hsd : (⟨(quoteL t.data.toList).toArray⟩ : ByteArray) = s := by rw [htd, hq]
      rw [hsd] at k3
      rw [ht] at k1 k2
      clear ht htd hsd hq hl hu e1 e2
      have htt : (t.toList == t.toList) = true := beq_self_eq_true _
      have hss : (s.toList == s.toList) = true := beq_self_eq_true _
      go_enter Tryd.func8, Tryd.ntmps8
      go_wp2_with fail
      refine k1.mono ?_
      rintro e w1 ⟨rfl, hb1⟩
      have hA1 := bstep hA hb1
      go_wp2_with fail
      refine (k2 _).mono ?_
      rintro e w2 ⟨rfl, hb2⟩
      have hA2 := bstep hA1 hb2
      go_wp2_with (first
        | (go_at_call 14; refine (k3 _ (hT.below hA2)).mono ?_; rintro e w3 ⟨rfl, hb3⟩; have hA3 := bstep hA2 hb3)
        | (go_at_call 17; refine (awake_any _ (hT.below hA3)).mono ?_; rintro e w6 ⟨rfl, hb6⟩; have hA5 := bstep hA3 hb6))
      all_goals go_returns
      all_goals exact ⟨rfl, hA5⟩
end Go.Proofs.YtbpfbceagdikoaaDoor
