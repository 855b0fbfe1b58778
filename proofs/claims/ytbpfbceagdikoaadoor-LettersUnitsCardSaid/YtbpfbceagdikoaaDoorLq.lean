/- LettersQuotes: the law's walk. -/
import Derived.Test.YtbpfbceagdikoaaDoorAw
import Derived.Test.YtbpfbceagdikoaaDoorW8
import Derived.Test.YtbpfbceagdikoaaDoorPlain3
namespace Go.Proofs.YtbpfbceagdikoaaDoor
open Go.RowKit
set_option linter.unusedVariables false

theorem flat_unit_len : ∀ ps : List Bs, (ps.flatMap unitP).length ≤ 4 * ps.length + ps.flatten.length
  | [] => by simp
  | t :: r => by
    have h1 := unitP_len t
    have h2 := flat_unit_len r
    rw [List.flatMap_cons, List.length_append, List.flatten_cons, List.length_append, List.length_cons]
    omega
theorem quoteL_len (l : Bs) : (quoteL l).length ≤ 5 * l.length + 2 := by
  unfold quoteL
  split
  · simp
  · have h := flat_unit_len (pieces l)
    rw [pieces_flat] at h
    have := pieces_len l
    unfold quoteP
    omega

set_option maxHeartbeats 4000000 in
set_option maxRecDepth 100000 in
theorem quotes_law (s : ByteArray) (w : World) (hT : Tabs w) :
    Calls Tryd.prog 7 #[.string s] w fun e w' => e = .returned (.bool true) ∧ Below w.heap.size w w' := by
  have hA : Below w.heap.size w w := Below.refl _ _
  rcases Nat.lt_or_ge 2000 s.size with hs | hs
  · go_enter Tryd.func7, Tryd.ntmps7
    go_wp2_with fail
    all_goals first
      | (go_at_call 17; refine (awake_any _ hT).mono ?_; rintro e w1 ⟨rfl, hb1⟩; go_wp2_with fail; go_returns; exact ⟨rfl, hb1⟩)
      | (exfalso; go_light; omega)
  · have k1 := quote_any s w hT (by omega)
    have k2 := fun W => rquote_any s W (by omega)
    have hlen := quoteL_len s.data.toList
    rw [← Lib.size_eq] at hlen
    obtain ⟨q, hq⟩ : ∃ q : ByteArray, (⟨(quoteL s.data.toList).toArray⟩ : ByteArray) = q := ⟨_, rfl⟩
    have hqd : q.data.toList = quoteL s.data.toList := by rw [← hq]
    have k3 := fun W hW => unquote_any q W hW (by rw [Lib.size_eq, hqd]; omega)
    rw [hqd, unquote_quote] at k3
    have hsd : (⟨(unqS (some s.data.toList)).toArray⟩ : ByteArray) = s := by unfold unqS; simp
    have he0 : unqE (some s.data.toList) = 0 := rfl
    rw [hsd, he0] at k3
    rw [hq] at k1 k2
    clear hq hqd hlen hsd he0
    have hss : (s.toList == s.toList) = true := beq_self_eq_true _
    have hqq : (q.toList == q.toList) = true := beq_self_eq_true _
    go_enter Tryd.func7, Tryd.ntmps7
    go_wp2_with fail
    refine k1.mono ?_
    rintro e w1 ⟨rfl, hb1⟩
    have hA1 := bstep hA hb1
    go_wp2_with fail
    refine (k3 _ (hT.below hA1)).mono ?_
    rintro e w2 ⟨rfl, hb2⟩
    have hA2 := bstep hA1 hb2
    go_wp2_with (first
      | (go_at_call 28; refine (k2 _).mono ?_; rintro e w3 ⟨rfl, hb3⟩; have hA3 := bstep hA2 hb3)
      | (go_at_call 17; refine (awake_any _ (hT.below hA3)).mono ?_; rintro e w6 ⟨rfl, hb6⟩; have hA5 := bstep hA3 hb6))
    all_goals go_returns
    all_goals exact ⟨rfl, hA5⟩
end Go.Proofs.YtbpfbceagdikoaaDoor
