/- Walks of layer 33: Rules. -/
import Derived.Test.YtplipnchkkhdaaaGreatDoorZ08
import Derived.Test.YtplipnchkkhdaaaGreatDoorZ09
import Derived.Test.YtplipnchkkhdaaaGreatDoorZ12
namespace Go.Proofs.YtplipnchkkhdaaaGreatDoor
open Go.RowKit
set_option linter.unusedVariables false

/-- what Rules returns -/
def RulPost (w : World) (r : List Rul × Nat × Nat) (e : Ending) (w' : World) : Prop :=
  ∃ v, e = .returned (.tuple #[v, .int .i64 (r.2.1 : Int), .int .i64 (r.2.2 : Int)]) ∧ RulsV w' v r.1 ∧ Below w.heap.size w w'
theorem RulsV.nil (w : World) : RulsV w (.slice none 0 0) [] := ⟨[], Sl.nil w, trivial⟩
set_option maxHeartbeats 2000000 in
set_option maxRecDepth 100000 in
theorem rules_any (s : ByteArray) (w : World) (hT : TabH w) : Calls Tryz.prog 26 #[.string s] w (RulPost w (rulesRead atoiA s.data.toList)) := by
  have hmf : ∀ (fn : Fn) (first cap : Array Value) (w : World), (Instr.makeFunc fn first cap).run Tryz.prog w = .ok (.func fn first cap) w := fun _ _ _ _ => rfl
  have b0 : Below w.heap.size w (w.alloc (.cells #[.slice none 0 0] 37)) := (Below.refl _ _).alloc (Nat.le_refl _) _
  have hblk := heap_alloc_new w (.cells #[.slice none 0 0] 37)
  by_cases hs : 16384 < s.size
  · have HP : Hid (rulesRead atoiA s.data.toList = ([], 0, 2)) := by unfold Hid rulesRead readText; rw [if_pos (by rw [← Lib.size_eq]; exact hs)]
    have p1 := read_long s 56 #[.pointer (some ⟨w.heap.size, 0, none⟩)] (w.alloc (.cells #[.slice none 0 0] 37)) hs
    go_enter Tryz.func26, Tryz.ntmps26
    go_wp2_with fail
    refine p1.mono ?_
    rintro e W ⟨rfl, b1⟩
    have hb1 := (b1.block w.heap.size (by simp)).trans hblk
    have k1 := cell_of_one hb1
    have k2 := free_of_one hb1
    go_wp2_with fail
    have k3 := cell_of_one (one_setCell (u := .slice none 0 0) hb1)
    refine bodyPost_ret (v := .tuple #[.slice none 0 0, .int .i64 0, .int .i64 2]) (by simp [results, Tryz.results26, k3, go_sem]) rfl ?_
    unfold RulPost
    rw [HP.out]
    exact ⟨_, rfl, RulsV.nil _, (bstep b0 b1).setCell (p := ⟨w.heap.size, 0, none⟩) (Nat.le_refl _) _⟩
  · have HP : Hid (rulesRead atoiA s.data.toList = readAll (ruleStep atoiA) [] (linesL s.data.toList)) := by unfold Hid rulesRead readText; rw [if_neg (by rw [← Lib.size_eq]; exact hs)]
    have p1 := read_any (ruleStep atoiA) [] (fun l W => ∃ v, W.heap[w.heap.size]? = some (.cells #[v] 37 (0, 0)) ∧ RLst (w.heap.size + 7) W v l) w.heap.size (w.heap.size + 1) 56 #[.pointer (some ⟨w.heap.size, 0, none⟩)]
      (w.alloc (.cells #[.slice none 0 0] 37)) s (by omega) (by omega) hT.lt (by simp) (hT.below b0)
      ⟨_, hblk, RowL.nil _ _ rfl⟩
      (fun l W W' h hc => by
        obtain ⟨v, h1, h2⟩ := h
        exact ⟨v, (hc.block _ (lt_of_block h1) (by omega)).trans h1, RowL.chg h2 hc fun b _ e => by omega⟩)
      (fun l W L h hTW hz h0 h1 => by
        obtain ⟨v, h2, h3⟩ := h
        have key : Calls Tryz.prog 56 #[.string L, .pointer (some ⟨w.heap.size, 0, none⟩)] W (Par2 w.heap.size l L.data.toList W) := by
          by_cases h9 : (cutEnd ((wordsL L.data.toList).headD []) 33).1 = selB
          · exact rules1_sel _ l W L v h2 h3 hTW (by omega) hT.lt h1 h9
          · exact rules1_rem _ l W L v h2 h3 hTW (by omega) hT.lt h1 h9
        refine key.mono fun e W' h => ⟨h.1.mono fun b _ e => by omega, h.2⟩)
      (fun args w => enters_of Tryz.func56 (by kernel_rfl) rfl args w)
    clear hs
    go_enter Tryz.func26, Tryz.ntmps26
    go_wp2_with fail
    refine p1.mono ?_
    rintro e W ⟨l, p, c, hr, rfl, hl, ⟨l2, v2, hb2, hl2⟩, b1⟩
    have k1 := cell_of_one hb2
    have k2 := free_of_one hb2
    have bW := b0.trans b1
    have HR := Lib.hid hr
    have HL := Lib.hid hl
    rcases readAll_err _ _ _ _ _ hr with ⟨rfl, rfl⟩ | ⟨rfl, rfl⟩
    · obtain ⟨v3, hb3, hl3⟩ := hl rfl
      obtain rfl : v2 = v3 := by rw [hb2] at hb3; simpa using hb3
      have k3 := cell_of_one (one_setCell (u := v2) hb2)
      have H3 := Lib.hid hl3
      obtain ⟨A, cv, rfl, hcs3, _⟩ := RowL.form hl3
      clear hr hl hl3 hb3 hl2 hcs3
      go_wp2_with fail
      refine bodyPost_ret (v := .tuple #[.slice A l.length cv, .int .i64 0, .int .i64 0]) (by simp [results, Tryz.results26, k3, go_sem]) rfl ?_
      unfold RulPost
      rw [HP.out, HR.out]
      exact ⟨_, rfl, RLst.ruls (RowL.chg H3.out (chg_setCell W w.heap.size 0 _) fun b _ e => by omega), bW.setCell (p := ⟨w.heap.size, 0, none⟩) (Nat.le_refl _) _⟩
    · have k3 := cell_of_one (one_setCell (u := .slice none 0 0) hb2)
      clear hr hl hl2
      go_wp2_with fail
      refine bodyPost_ret (v := .tuple #[.slice none 0 0, .int .i64 (p : Int), .int .i64 3]) (by simp [results, Tryz.results26, k3, go_sem]) rfl ?_
      unfold RulPost
      rw [HP.out, HR.out]
      exact ⟨_, rfl, RulsV.nil _, bW.setCell (p := ⟨w.heap.size, 0, none⟩) (Nat.le_refl _) _⟩

/- awake: the examples that every statement of layer 33 asks besides. -/
open Go.RowKit
set_option linter.unusedVariables false

theorem sizedX : Sized cohsX := by unfold Sized; decide
theorem sizedRX : SizedRs rulsX := by unfold SizedRs SizedR; decide
def rulX : Rul := ⟨1, [[78], [83, 103]], [⟨-1, false, false, false, [[68, 101, 116]], []⟩, ⟨1, true, true, true, [[86]], [[78]]⟩], false⟩
theorem sizedR1 : SizedR rulX := by unfold SizedR; decide
set_option maxHeartbeats 8000000 in
set_option maxRecDepth 100000 in
theorem awake_any (w : World) (hT : TabH w) :
    Calls Tryz.prog 15 #[] w fun e w' => e = .returned (.bool true) ∧ Below w.heap.size w w' := by
  have c1 : ∀ W, TabH W → Calls Tryz.prog 10 #[.string ⟨#[100, 111, 103, 10, 9, 78, 32, 83, 103, 10, 9, 86, 10, 97, 37, 32, 98, 10, 9, 37, 43, 120, 10]⟩] W fun e w' => ∃ A c, e = .returned (.tuple #[.slice A 2 c, .int .i64 0, .int .i64 0]) ∧ CohsV w' (.slice A 2 c) cohsX ∧ Below W.heap.size W w' := fun W hW => by
    refine (parse_any ⟨#[100, 111, 103, 10, 9, 78, 32, 83, 103, 10, 9, 86, 10, 97, 37, 32, 98, 10, 9, 37, 43, 120, 10]⟩ W hW).mono ?_
    rintro e w' ⟨v, rfl, hv, hb⟩
    have e1 : parseL (⟨#[100, 111, 103, 10, 9, 78, 32, 83, 103, 10, 9, 86, 10, 97, 37, 32, 98, 10, 9, 37, 43, 120, 10]⟩ : ByteArray).data.toList = (cohsX, 0, 0) := ex_parse
    rw [e1] at hv ⊢
    obtain ⟨xs, ⟨A, c, rfl, h1, h2⟩, h3⟩ := hv
    exact ⟨A, c, rfl, ⟨xs, ⟨A, c, rfl, h1, h2⟩, h3⟩, hb⟩
  have c3 : ∀ W, TabH W → Calls Tryz.prog 26 #[.string ⟨#[83, 69, 76, 69, 67, 84, 32, 78, 32, 83, 103, 32, 40, 45, 49, 32, 68, 101, 116, 41, 32, 40, 33, 49, 42, 67, 32, 86, 32, 124, 32, 78, 41, 10, 82, 69, 77, 79, 86, 69, 33, 32, 86, 10]⟩] W fun e w' => ∃ A c, e = .returned (.tuple #[.slice A 2 c, .int .i64 0, .int .i64 0]) ∧ RulsV w' (.slice A 2 c) rulsX ∧ Below W.heap.size W w' := fun W hW => by
    refine (rules_any ⟨#[83, 69, 76, 69, 67, 84, 32, 78, 32, 83, 103, 32, 40, 45, 49, 32, 68, 101, 116, 41, 32, 40, 33, 49, 42, 67, 32, 86, 32, 124, 32, 78, 41, 10, 82, 69, 77, 79, 86, 69, 33, 32, 86, 10]⟩ W hW).mono ?_
    rintro e w' ⟨v, rfl, hv, hb⟩
    have e1 : rulesRead atoiA (⟨#[83, 69, 76, 69, 67, 84, 32, 78, 32, 83, 103, 32, 40, 45, 49, 32, 68, 101, 116, 41, 32, 40, 33, 49, 42, 67, 32, 86, 32, 124, 32, 78, 41, 10, 82, 69, 77, 79, 86, 69, 33, 32, 86, 10]⟩ : ByteArray).data.toList = (rulsX, 0, 0) := ex_rules
    rw [e1] at hv ⊢
    obtain ⟨xs, ⟨A, c, rfl, h1, h2⟩, h3⟩ := hv
    exact ⟨A, c, rfl, ⟨xs, ⟨A, c, rfl, h1, h2⟩, h3⟩, hb⟩
  have c2 : ∀ W A, TabH W → CohsV W (.slice A 2 2) cohsX → Calls Tryz.prog 17 #[.slice A 2 2] W fun e w' => e = .returned (.tuple #[.string ⟨#[100, 111, 103, 10, 9, 78, 32, 83, 103, 10, 9, 86, 10, 97, 37, 32, 98, 10, 9, 37, 43, 120, 10]⟩, .int .i64 0]) ∧ Below W.heap.size W w' := fun W A hW hv => by
    have h := text_any A 2 cohsX W hW.t hv sizedX
    rw [ex_text] at h
    exact h
  have c4 : ∀ W A, TabH W → RulsV W (.slice A 2 2) rulsX → Calls Tryz.prog 24 #[.slice A 2 2] W fun e w' => e = .returned (.tuple #[.string ⟨#[83, 69, 76, 69, 67, 84, 32, 78, 32, 83, 103, 32, 40, 45, 49, 32, 68, 101, 116, 41, 32, 40, 33, 49, 42, 67, 32, 86, 32, 124, 32, 78, 41, 10, 82, 69, 77, 79, 86, 69, 33, 32, 86, 10]⟩, .int .i64 0]) ∧ Below W.heap.size W w' := fun W A hW hv => by
    have h := rtext_any A 2 rulsX W hW hv sizedRX
    rw [ex_rtext] at h
    exact h
  have c5 : ∀ W A B c, CohsV W (.slice A 2 c) cohsX → CohsV W (.slice B 2 2) cohsX → Calls Tryz.prog 11 #[.slice A 2 c, .slice B 2 2] W fun e w' => e = .returned (.bool true) ∧ Below W.heap.size W w' := fun W A B c h1 h2 => by
    have h := rsame_any A B c 2 cohsX cohsX W h1 h2 sizedX sizedX
    rw [decide_eq_true (rfl : cohsX = cohsX)] at h
    exact h
  have c6 : ∀ W A B c, RulsV W (.slice A 2 c) rulsX → RulsV W (.slice B 2 2) rulsX → Calls Tryz.prog 27 #[.slice A 2 c, .slice B 2 2] W fun e w' => e = .returned (.bool true) ∧ Below W.heap.size W w' := fun W A B c h1 h2 => by
    have h := rsamer_any A B c 2 rulsX rulsX W h1 h2 sizedRX sizedRX
    rw [decide_eq_true (rfl : rulsX = rulsX)] at h
    exact h
  have c7 : ∀ W A, TabH W → CohsV W (.slice A 2 2) cohsX → Calls Tryz.prog 19 #[.slice A 2 2] W fun e w' => e = .returned (.bool true) ∧ Below W.heap.size W w' := fun W A hW hv => by
    have h := valid_any A 2 cohsX W hW.t hv sizedX
    rw [ex_valid] at h
    exact h
  have c8 : ∀ W A1 A2 c1 c2, TabH W → RulV W (.slice A1 2 c1, .slice A2 2 c2) rulX → Calls Tryz.prog 22 #[.agg #[.int .i64 1, .slice A1 2 c1, .slice A2 2 c2, .bool false]] W fun e w' => e = .returned (.bool true) ∧ Below W.heap.size W w' := fun W A1 A2 c1 c2 hW hv => by
    have h := vrule_any rulX A1 A2 c1 c2 W hW.t hv sizedR1
    rw [show rulOk rulX = true from ex_vrule] at h
    exact h
  have C1 := Lib.hid c1
  have C2 := Lib.hid c2
  have C3 := Lib.hid c3
  have C4 := Lib.hid c4
  have C5 := Lib.hid c5
  have C6 := Lib.hid c6
  have C7 := Lib.hid c7
  have C8 := Lib.hid c8
  clear c1 c2 c3 c4 c5 c6 c7 c8
  go_enter Tryz.func15, Tryz.ntmps15
  go_wp2_with fail
  refine (C1.out w hT).mono ?_
  rintro e w1 ⟨A1, c1, rfl, V1, b1⟩
  have HV1 := Lib.hid V1
  clear V1
  go_wp2_with fail
  refine (cohorts_any _).mono ?_
  rintro e w2 ⟨A2, rfl, V2, b2⟩
  have k2 := bstep b1 b2
  go_wp2_with fail
  refine (C2.out w2 A2 (hT.below k2) V2).mono ?_
  rintro e w3 ⟨rfl, b3⟩
  have k3 := bstep k2 b3
  clear V2
  go_wp2_with fail
  refine (C3.out w3 (hT.below k3)).mono ?_
  rintro e w4 ⟨A4, c4, rfl, V4, b4⟩
  have k4 := bstep k3 b4
  have HV4 := Lib.hid V4
  clear V4
  go_wp2_with fail
  refine (rules_any0 _).mono ?_
  rintro e w5 ⟨A5, rfl, V5, b5⟩
  have k5 := bstep k4 b5
  go_wp2_with fail
  refine (C4.out w5 A5 (hT.below k5) V5).mono ?_
  rintro e w6 ⟨rfl, b6⟩
  have k6 := bstep k5 b6
  have q61 : Below w1.heap.size w1 w6 := bstep (bstep (bstep (bstep b2 b3) b4) b5) b6
  have q64 : Below w4.heap.size w4 w6 := bstep b5 b6
  clear V5
  go_wp2_with fail
  refine (cohorts_any _).mono ?_
  rintro e w7 ⟨A7, rfl, V7, b7⟩
  have k7 := bstep k6 b7
  go_wp2_with fail
  refine (C5.out w7 A1 A7 c1 (HV1.out.below (bstep q61 b7)) V7).mono ?_
  rintro e w8 ⟨rfl, b8⟩
  have k8 := bstep k7 b8
  have q84 := bstep (bstep q64 b7) b8
  clear V7
  go_wp2_with fail
  refine (rules_any0 _).mono ?_
  rintro e w9 ⟨A9, rfl, V9, b9⟩
  have k9 := bstep k8 b9
  go_wp2_with fail
  refine (C6.out w9 A4 A9 c4 (HV4.out.below (bstep q84 b9)) V9).mono ?_
  rintro e w10 ⟨rfl, b10⟩
  have k10 := bstep k9 b10
  clear V9
  go_wp2_with fail
  refine (cohorts_any _).mono ?_
  rintro e w11 ⟨A11, rfl, V11, b11⟩
  have k11 := bstep k10 b11
  go_wp2_with fail
  refine (C7.out w11 A11 (hT.below k11) V11).mono ?_
  rintro e w12 ⟨rfl, b12⟩
  have k12 := bstep k11 b12
  clear V11
  go_wp2_with fail
  refine (rules_any0 _).mono ?_
  rintro e w13 ⟨A13, rfl, V13, b13⟩
  have k13 := bstep k12 b13
  obtain ⟨b, o, X1, d1, X2, d2, rfl, hlt, g0, g1, g2, g3, hR⟩ := V13.at (k := 0) (by decide)
  have g0' : w13.cell? ⟨b, o, none⟩ = some (.int .i64 1) := g0
  have g1' : w13.cell? ⟨b, o + 1, none⟩ = some (.slice X1 2 d1) := g1
  have g2' : w13.cell? ⟨b, o + 2, none⟩ = some (.slice X2 2 d2) := g2
  have g3' : w13.cell? ⟨b, o + 3, none⟩ = some (.bool false) := g3
  have HR : RulV w13 (.slice X1 2 d1, .slice X2 2 d2) rulX := hR
  have HR2 := Lib.hid HR
  clear g0 g1 g2 g3 hR HR V13
  go_wp2_with fail
  refine (C8.out w13 X1 X2 d1 d2 (hT.below k13) HR2.out).mono ?_
  rintro e w14 ⟨rfl, b14⟩
  go_wp2_with fail
  go_returns
  exact ⟨rfl, bstep k13 b14⟩
end Go.Proofs.YtplipnchkkhdaaaGreatDoor
