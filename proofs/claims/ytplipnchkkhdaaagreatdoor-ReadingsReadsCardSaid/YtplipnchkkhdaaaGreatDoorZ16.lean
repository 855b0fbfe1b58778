/- The statement ReadingsBack: its walk. -/
import Derived.Test.YtplipnchkkhdaaaGreatDoorZ13
import Derived.Test.YtplipnchkkhdaaaGreatDoorZ15
namespace Go.Proofs.YtplipnchkkhdaaaGreatDoor
open Go.RowKit
set_option linter.unusedVariables false

theorem cohsText_ok {l : List Coh} {t : Bs} (h : cohsText l = (t, 0)) : cohsOk l = true := by
  unfold cohsText at h
  by_cases hc : cohsOk l = true
  · exact hc
  · rw [if_neg hc] at h
    simp at h
theorem tagsOk_len {lo hi : Nat} {l : List Bs} (h : tagsOk lo hi l = true) : l.length ≤ hi := by
  unfold tagsOk at h
  simp only [Bool.and_eq_true, decide_eq_true_eq] at h
  exact h.1.2
theorem sized_ok {l : List Coh} (h : cohsOk l = true) : Sized l := by
  obtain ⟨h1, h2⟩ := cohsOk_parts h
  refine ⟨by omega, fun c hc => ?_⟩
  obtain ⟨h3, h4, h5⟩ := cohOk_parts (h2 c hc)
  exact ⟨by omega, fun r hr => by have := tagsOk_len (h5 r hr); omega⟩
theorem rulesText_ok {l : List Rul} {t : Bs} (h : rulesText l = (t, 0)) : l.length ≤ 100 ∧ ∀ r ∈ l, rulOk r = true := by
  unfold rulesText at h
  by_cases hc : l.length ≤ 100 ∧ l.all rulOk = true
  · exact ⟨hc.1, List.all_eq_true.1 hc.2⟩
  · rw [if_neg hc] at h
    simp at h
theorem sizedR_ok {r : Rul} (h : rulOk r = true) : SizedR r := by
  obtain ⟨h1, h2, h3, h4, h5⟩ := rulOk_parts h
  have := tagsOk_len h3
  refine ⟨by omega, by omega, fun t ht => ?_⟩
  obtain ⟨g1, g2, g3, g4, g5, g6⟩ := tstOk_parts (h5 t ht)
  have := tagsOk_len g4
  have := tagsOk_len g5
  omega
theorem sizedRs_ok {l : List Rul} (h : l.length ≤ 100 ∧ ∀ r ∈ l, rulOk r = true) : SizedRs l := ⟨by omega, fun r hr => sizedR_ok (h.2 r hr)⟩
theorem readText_err {α : Type} {step : List α → Bs → Option (List α)} {s : Bs} {l : List α} {p c : Nat} (hs : s.length ≤ 16384) (h : readText step s = (l, p, c)) : (c = 0 ∧ p = 0) ∨ (c = 3 ∧ l = []) := by
  unfold readText at h
  rw [if_neg (by omega)] at h
  exact readAll_err _ _ _ _ _ h
set_option maxHeartbeats 8000000 in
set_option maxRecDepth 100000 in
theorem back_any (s : ByteArray) (w : World) (hT : TabH w) :
    Calls Tryz.prog 8 #[.string s] w fun e w' => e = .returned (.bool true) ∧ Below w.heap.size w w' := by
  by_cases hs : 16000 < s.size
  · have d1 : (16000 : Int) < (s.size : Int) := by omega
    have p0 := awake_any w hT
    go_enter Tryz.func8, Tryz.ntmps8
    go_wp2_with fail
    refine p0.mono ?_
    rintro e w1 ⟨rfl, b1⟩
    go_wp2_with fail
    go_returns
    exact ⟨rfl, b1⟩
  · have d1 : (s.size : Int) ≤ 16000 := by omega
    have hs16 : s.data.toList.length ≤ 16000 := by rw [← Lib.size_eq]; omega
    have hsl : s.data.toList.length ≤ 16384 := by omega
    cases hr : parseL s.data.toList with
    | mk l pc =>
      obtain ⟨q, e1⟩ := pc
      have p1 := parse_any s w hT
      rw [hr] at p1
      have he := readText_err hsl hr
      go_enter Tryz.func8, Tryz.ntmps8
      go_wp2_with fail
      refine p1.mono ?_
      rintro e w1 ⟨v, rfl, V, b1⟩
      obtain ⟨A, d, rfl⟩ : ∃ A c, v = .slice A l.length c := by
        obtain ⟨xs, ⟨A, c, rfl, h1, h2⟩, h3⟩ := V
        exact ⟨A, c, rfl⟩
      rcases he with ⟨rfl, rfl⟩ | ⟨rfl, rfl⟩
      · have hb := parse_back hs16 hr
        have p2 := text_any A d l w1 (hT.below b1).t V (sized_ok (cohsText_ok hb))
        rw [hb] at p2
        clear hr p1 hb V
        go_wp2_with fail
        refine p2.mono ?_
        rintro e w2 ⟨rfl, b2⟩
        have k2 := bstep b1 b2
        go_wp2_with fail
        refine (bare_any s w2 (by omega)).mono ?_
        rintro e w3 ⟨rfl, b3⟩
        have k3 := bstep k2 b3
        cases hr2 : rulesRead atoiA s.data.toList with
        | mk l2 pc2 =>
          obtain ⟨q2, e2⟩ := pc2
          have p3 := rules_any s w3 (hT.below k3)
          rw [hr2] at p3
          have he2 := readText_err hsl hr2
          go_wp2_with fail
          refine p3.mono ?_
          rintro e wr1 ⟨v2, rfl, V2, c1⟩
          obtain ⟨A2, d2, rfl⟩ : ∃ A c, v2 = .slice A l2.length c := by
            obtain ⟨xs, ⟨A, c, rfl, h1, h2⟩, h3⟩ := V2
            exact ⟨A, c, rfl⟩
          have m1 := bstep k3 c1
          rcases he2 with ⟨rfl, rfl⟩ | ⟨rfl, rfl⟩
          · have hb2 := rules_back hs16 hr2
            have p4 := rtext_any A2 d2 l2 wr1 (hT.below m1) V2 (sizedRs_ok (rulesText_ok hb2))
            rw [hb2] at p4
            clear hr2 p3 hb2 V2
            go_wp2_with fail
            refine p4.mono ?_
            rintro e wr2 ⟨rfl, c2⟩
            have m2 := bstep m1 c2
            go_wp2_with fail
            refine (bare_any s wr2 (by omega)).mono ?_
            rintro e wr3 ⟨rfl, c3⟩
            have m3 := bstep m2 c3
            go_wp2_with fail
            refine (awake_any wr3 (hT.below m3)).mono ?_
            rintro e wr4 ⟨rfl, c4⟩
            go_wp2_with fail
            go_returns
            exact ⟨rfl, bstep m3 c4⟩
          · clear hr2 p3 V2
            go_wp2_with fail
            refine (awake_any wr1 (hT.below m1)).mono ?_
            rintro e wr4 ⟨rfl, c4⟩
            go_wp2_with fail
            go_returns
            exact ⟨rfl, bstep m1 c4⟩
      · clear hr p1 V
        cases hr2 : rulesRead atoiA s.data.toList with
        | mk l2 pc2 =>
          obtain ⟨q2, e2⟩ := pc2
          have p3 := rules_any s w1 (hT.below b1)
          rw [hr2] at p3
          have he2 := readText_err hsl hr2
          go_wp2_with fail
          refine p3.mono ?_
          rintro e wr1 ⟨v2, rfl, V2, c1⟩
          obtain ⟨A2, d2, rfl⟩ : ∃ A c, v2 = .slice A l2.length c := by
            obtain ⟨xs, ⟨A, c, rfl, h1, h2⟩, h3⟩ := V2
            exact ⟨A, c, rfl⟩
          have m1 := bstep b1 c1
          rcases he2 with ⟨rfl, rfl⟩ | ⟨rfl, rfl⟩
          · have hb2 := rules_back hs16 hr2
            have p4 := rtext_any A2 d2 l2 wr1 (hT.below m1) V2 (sizedRs_ok (rulesText_ok hb2))
            rw [hb2] at p4
            clear hr2 p3 hb2 V2
            go_wp2_with fail
            refine p4.mono ?_
            rintro e wr2 ⟨rfl, c2⟩
            have m2 := bstep m1 c2
            go_wp2_with fail
            refine (bare_any s wr2 (by omega)).mono ?_
            rintro e wr3 ⟨rfl, c3⟩
            have m3 := bstep m2 c3
            go_wp2_with fail
            refine (awake_any wr3 (hT.below m3)).mono ?_
            rintro e wr4 ⟨rfl, c4⟩
            go_wp2_with fail
            go_returns
            exact ⟨rfl, bstep m3 c4⟩
          · clear hr2 p3 V2
            go_wp2_with fail
            refine (awake_any wr1 (hT.below m1)).mono ?_
            rintro e wr4 ⟨rfl, c4⟩
            go_wp2_with fail
            go_returns
            exact ⟨rfl, bstep m1 c4⟩
end Go.Proofs.YtplipnchkkhdaaaGreatDoor
