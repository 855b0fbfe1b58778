/- The statement ReadingsReads: its walk. -/
import Derived.Test.YtplipnchkkhdaaaGreatDoorZ28
import Derived.Test.YtplipnchkkhdaaaGreatDoorZ23
namespace Go.Proofs.YtplipnchkkhdaaaGreatDoor
open Go.RowKit
set_option linter.unusedVariables false

theorem ruleStepR_ok {st st' : List Rul} {x : Bs} (h : st.length ≤ 100 ∧ ∀ r ∈ st, rulOk r = true) (hs : ruleStepR st x = some st') : st'.length ≤ 100 ∧ ∀ r ∈ st', rulOk r = true := by
  unfold ruleStepR at hs
  split at hs
  · rename_i hc
    simp only [Option.some.injEq] at hs
    subst hs
    refine ⟨by simp; omega, fun d hd => ?_⟩
    rcases List.mem_append.1 hd with hd | hd
    · exact h.2 d hd
    · simp only [List.mem_singleton] at hd
      rw [hd]; exact hc.1
  · cases hs
theorem ruleStepEq : (ruleStep atoiA : List Rul → Bs → Option (List Rul)) = ruleStepR := by funext a b; exact ruleStep_eq (fun n h => atoiA_numL h) a b
set_option maxHeartbeats 4000000 in
set_option maxRecDepth 100000 in
theorem readsLaw_any (s : ByteArray) (w : World) (hT : TabH w) :
    Calls Tryz.prog 7 #[.string s] w fun e w' => e = .returned (.bool true) ∧ Below w.heap.size w w' := by
  by_cases hs : 20000 < s.size
  · have d1 : (20000 : Int) < (s.size : Int) := by omega
    have p0 := awake_any w hT
    go_enter Tryz.func7, Tryz.ntmps7
    go_wp2_with fail
    refine p0.mono ?_
    rintro e w1 ⟨rfl, b1⟩
    go_wp2_with fail
    go_returns
    exact ⟨rfl, b1⟩
  · have d1 : (s.size : Int) ≤ 20000 := by omega
    have p1 := rules_any s w hT
    have p2 := fun W => rrules_any s W
    unfold rulesRead at p1
    rw [ruleStepEq] at p1
    have hsz : SizedRs (readText ruleStepR s.data.toList).1 := sizedRs_ok (readText_keep (P := fun l => l.length ≤ 100 ∧ ∀ r ∈ l, rulOk r = true) (fun _ _ _ h => ruleStepR_ok h) ⟨by simp, fun r hr => by cases hr⟩ s.data.toList)
    generalize readText ruleStepR s.data.toList = R at *
    obtain ⟨l, q, c⟩ := R
    clear hs
    unfold RulPost at p1 p2
    dsimp only at *
    have HSZ := Lib.hid hsz
    clear hsz
    go_enter Tryz.func7, Tryz.ntmps7
    go_wp2_with fail
    refine p1.mono ?_
    rintro e w1 ⟨v1, rfl, V1, b1⟩
    clear p1
    obtain ⟨A1, d1', rfl⟩ : ∃ A c, v1 = .slice A l.length c := by
      obtain ⟨xs, ⟨A, c, rfl, h1, h2⟩, h3⟩ := V1
      exact ⟨A, c, rfl⟩
    go_wp2_with fail
    refine (p2 _).mono ?_
    rintro e w2 ⟨v2, rfl, V2, b2⟩
    clear p2
    obtain ⟨A2, d2', rfl⟩ : ∃ A c, v2 = .slice A l.length c := by
      obtain ⟨xs, ⟨A, c, rfl, h1, h2⟩, h3⟩ := V2
      exact ⟨A, c, rfl⟩
    have p3 := rsamer_any A1 A2 d1' d2' l l w2 (V1.below b2) V2 HSZ.out HSZ.out
    rw [decide_eq_true rfl] at p3
    have k2 := bstep b1 b2
    clear V1 V2
    go_wp2_with fail
    refine p3.mono ?_
    rintro e w3 ⟨rfl, b3⟩
    have k3 := bstep k2 b3
    go_wp2_with fail
    refine (awake_any w3 (hT.below k3)).mono ?_
    rintro e w4 ⟨rfl, b4⟩
    go_wp2_with fail
    go_returns
    exact ⟨rfl, bstep k3 b4⟩
end Go.Proofs.YtplipnchkkhdaaaGreatDoor
