/- Walk of the law's own huge (layer 33). -/
import Derived.Test.YtplipnchkkhdaaaGreatDoorZ20
import Derived.Test.YtplipnchkkhdaaaGreatDoorZ16
import Derived.Deep.QuietTactic
import Derived.BigQuiet
import Derived.IntWalk
import Derived.Test.YtplipnchkkhdaaaGreatDoorZ19
import Derived.Deep.RegionHeld3
namespace Go.Proofs.YtplipnchkkhdaaaGreatDoor
open Go.RowKit
set_option linter.unusedVariables false

/-- lengths that memory can hold -/
def HoldsB (l : List Bs) : Prop := l.length ≤ 140737488355328 ∧ ∀ x ∈ l, x.length ≤ 140737488355328
def HoldsR (l : List Rul) : Prop := ∀ r ∈ l, HoldsB r.target ∧ r.tests.length ≤ 140737488355328 ∧ ∀ t ∈ r.tests, HoldsB t.tags ∧ HoldsB t.barrier
def FineR (r : Rul) : Prop := r.target.length ≤ 30000 ∧ r.tests.length ≤ 30000 ∧ ∀ t ∈ r.tests, t.tags.length ≤ 30000 ∧ t.barrier.length ≤ 30000
theorem wrapN (a : Nat) (h : a ≤ 1000000000000000000) : IntKind.i64.wrap (a : Int) = (a : Int) := by
  have e : IntKind.i64.wrap (a : Int) = wrap64 (a : Int) := by rw [IntKind.wrap_i64]; unfold wrap64; rfl
  rw [e]
  exact IntWalk.wrap64_in _ ⟨by omega, by omega⟩
set_option maxHeartbeats 8000000 in
set_option maxRecDepth 100000 in
theorem huge_any (A : Option Addr) (c : Nat) (l : List Rul) (w : World) (hV : RulsV w (.slice A l.length c) l) (hl : l.length ≤ 140737488355328) (hh : HoldsR l) :
    Calls Tryz.prog 21 #[.slice A l.length c] w fun e w' => (∃ q : Bool, e = .returned (.bool q) ∧ (q = false → SizedRs l)) ∧ Below w.heap.size w w' := by
  have HV := Lib.hid hV
  have HH := Lib.hid hh
  clear hV hh
  by_cases h150 : 150 < l.length
  · have d1 : decide ((150 : Int) < (l.length : Int)) = true := decide_eq_true (by omega)
    go_enter Tryz.func21, Tryz.ntmps21
    go_wp2_with fail
    go_returns
    exact ⟨⟨true, rfl, fun h => by cases h⟩, Below.refl _ _⟩
  · have d1 : decide ((150 : Int) < (l.length : Int)) = false := decide_eq_false (by omega)
    have hl2 : l.length ≤ 150 := by omega
    clear h150
    go_enter Tryz.func21, Tryz.ntmps21
    go_wp2_with fail
    go_loopw [3, 4] (fun v i wr => Below w.heap.size w wr ∧ ∃ (k n : Nat), v = .int .i64 n ∧ i = .int .i64 k ∧ k ≤ l.length ∧ n ≤ 700000000000000 + k * 281474976710656 ∧ Hid (n ≤ 30000 → ∀ c ∈ l.take k, FineR c)) (fun _ i _ => l.length - (intOf i).toNat)
    case atStart => exact ⟨Below.refl _ _, 0, 0, rfl, rfl, by omega, by omega, by simp [Hid]⟩
    case round =>
      obtain ⟨hB, k, n, rfl, rfl, hk, hn, HN⟩ := hrel
      by_cases hlt : k < l.length
      · obtain ⟨b, o, A1, c1, A2, c2, rfl, hbl, g0, g1, g2, g3, hr⟩ := HV.out.at hlt
        obtain ⟨⟨m1, m2⟩, m3, m4⟩ := HH.out l[k] (List.getElem_mem _)
        have HT : Hid (∀ n', n ≤ n' → (n' ≤ 30000 → FineR l[k]) → n' ≤ 30000 → ∀ c ∈ l.take (k + 1), FineR c) := fun n' h1 h2 h3 => take_all hlt (HN.out (by omega)) (h2 h3)
        generalize l[k] = rr at *
        have k1 := (hB.cell (p := ⟨b, o + k * 4 + 1, none⟩) hbl).trans g1
        have K2 : Hid (∀ W, Below w.heap.size w W → W.cell? ⟨b, o + k * 4 + 2, none⟩ = some (.slice A2 rr.tests.length c2)) := fun W hW => (hW.cell (p := ⟨b, o + k * 4 + 2, none⟩) hbl).trans g2
        obtain ⟨⟨A', c', e', hc', hrt⟩, hts⟩ := hr
        cases e'
        have p1 := size_same A1 c1 rr.target wr (hrt.below hB) m1 m2
        obtain ⟨z1, z2⟩ := sizeL_bd m1 m2
        have HTS := Lib.hid hts
        have M4 := Lib.hid m4
        have k0 : (0 : Int) ≤ (k : Int) := by omega
        have kl : (k : Int) < (l.length : Int) := by omega
        have hkb : k * 281474976710656 ≤ 150 * 281474976710656 := Nat.mul_le_mul (by omega) (Nat.le_refl _)
        generalize sizeL rr.target = zt at *
        clear g0 g1 g2 g3 hrt hts m2 m4 hc'
        go_wp2_with fail
        refine p1.mono ?_
        rintro e wx ⟨rfl, rfl⟩
        clear p1
        go_wp2_with fail
        obtain ⟨wo, hwo⟩ : ∃ W, W = wx := ⟨_, rfl⟩
        subst hwo
        go_loopw [3, 5] (fun v j wr => Below w.heap.size w wr ∧ ∃ (m n' : Nat), v = .int .i64 n' ∧ j = .int .i64 m ∧ m ≤ rr.tests.length ∧ n + zt ≤ n' ∧ n' ≤ 700000000000000 + (k + 1) * 281474976710656 ∧ m ≤ n' ∧ Hid (n' ≤ 30000 → ∀ t ∈ rr.tests.take m, t.tags.length ≤ 30000 ∧ t.barrier.length ≤ 30000)) (fun _ j _ => rr.tests.length - (intOf j).toNat)
        case atStart => exact ⟨hB, 0, n + zt, by go_num, rfl, by omega, by omega, by omega, by omega, by simp [Hid]⟩
        case round =>
          obtain ⟨hB2, m, n', rfl, rfl, hm, hnn, hn', hmn, HM⟩ := hrel
          have k2 := K2.out wr hB2
          have hkb1 : (k + 1) * 281474976710656 ≤ 150 * 281474976710656 := Nat.mul_le_mul (by omega) (Nat.le_refl _)
          by_cases hlt2 : m < rr.tests.length
          · have d1 : decide (m < rr.tests.length) = true := decide_eq_true hlt2
            by_cases hn3 : n' ≤ 30000
            · obtain ⟨b', o', AT, cT, AY, cY, rfl, hbl', j0, j1, j2, j3, j4, j5, hRT, hRY⟩ := HTS.out.at hlt2
              obtain ⟨⟨x1, x2⟩, x3, x4⟩ := M4.out rr.tests[m] (List.getElem_mem _)
              have HT2 : Hid (∀ n2, n' ≤ n2 → rr.tests[m].tags.length ≤ n2 → rr.tests[m].barrier.length ≤ n2 → n2 ≤ 30000 → ∀ t ∈ rr.tests.take (m + 1), t.tags.length ≤ 30000 ∧ t.barrier.length ≤ 30000) := fun n2 h1 h2 h3 h4 => take_all hlt2 (HM.out (by omega)) ⟨by omega, by omega⟩
              generalize rr.tests[m] = tt at *
              have q4 := (hB2.cell (p := ⟨b', o' + m * 6 + 4, none⟩) hbl').trans j4
              have q5 := (hB2.cell (p := ⟨b', o' + m * 6 + 5, none⟩) hbl').trans j5
              have hT2 := hRT.below hB2
              have hY2 := hRY.below hB2
              obtain ⟨y1, y2⟩ := sizeL_bd x1 x2
              obtain ⟨y3, y4⟩ := sizeL_bd x3 x4
              have hay := fun (q : Nat) => size_same AT cT tt.tags (wr.drewN q) (hT2.below (below_drewN (Below.refl _ _) q)) x1 x2
              have hby := fun (q : Nat) => size_same AY cY tt.barrier (wr.drewN q) (hY2.below (below_drewN (Below.refl _ _) q)) x3 x4
              generalize sizeL tt.tags = s1 at *
              generalize sizeL tt.barrier = s2 at *
              have d2 : decide ((n' : Int) ≤ 30000) = true := decide_eq_true (by omega)
              have m0 : (0 : Int) ≤ (m : Int) := by omega
              have ml : (m : Int) < (rr.tests.length : Int) := by omega
              have v1 : IntKind.i64.wrap ((n' : Int) + 1) = ((n' + 1 : Nat) : Int) := wrapN (n' + 1) (by omega)
              have v2 : IntKind.i64.wrap (((n' + 1 : Nat) : Int) + (s1 : Int)) = ((n' + 1 + s1 : Nat) : Int) := wrapN (n' + 1 + s1) (by omega)
              have v3 : IntKind.i64.wrap (((n' + 1 + s1 : Nat) : Int) + (s2 : Int)) = ((n' + 1 + s1 + s2 : Nat) : Int) := wrapN (n' + 1 + s1 + s2) (by omega)
              clear j0 j1 j2 j3 j4 j5 hRT hRY hT2 hY2 x2 x4
              go_wp2_with fail
              go_quiet (first | (go_at_call 41; with_reducible exact Calls.quiet_of_same (hay _)) | (go_at_call 41; with_reducible exact Calls.quiet_of_same (hby _)))
              go_wp2_with fail
              go_roundw
              case rel => exact ⟨below_drewN hB2 _, m + 1, n' + 1 + s1 + s2, by go_num, by go_num, by omega, by omega, by omega, by omega, HT2.out _ (by omega) (by omega) (by omega)⟩
              case measure => simp [intOf]; omega
            · have d2 : decide ((n' : Int) ≤ 30000) = false := decide_eq_false (by omega)
              go_wp2_with fail
              go_roundw
              case rel => exact ⟨hB2, k + 1, n', rfl, by go_num, by omega, by omega, fun h => by omega⟩
              case measure => simp [intOf]; omega
          · obtain rfl : m = rr.tests.length := by omega
            have d1 : decide (rr.tests.length < rr.tests.length) = false := decide_eq_false (by omega)
            have HF : Hid (n' ≤ 30000 → ∀ c ∈ l.take (k + 1), FineR c) := HT.out n' (by omega) fun h => ⟨by omega, by omega, by have := HM.out h; rwa [List.take_length] at this⟩
            go_wp2_with fail
            go_roundw
            case rel => exact ⟨hB2, k + 1, n', rfl, by go_num, by omega, by omega, HF.out⟩
            case measure => simp [intOf]; omega
      · obtain rfl : k = l.length := by omega
        have HZ : Hid (n ≤ 30000 → SizedRs l) := fun h => by
          have h2 := HN.out h
          rw [List.take_length] at h2
          exact ⟨by omega, fun c hc => ⟨by have := (h2 c hc).1; omega, by have := (h2 c hc).2.1; omega, fun t ht => by have := (h2 c hc).2.2 t ht; omega⟩⟩
        go_wp2_with fail
        go_returns
        exact ⟨⟨decide ((30000 : Int) < (n : Int)), rfl, fun h => HZ.out (by have := of_decide_eq_false h; omega)⟩, hB⟩

/- The statement ReadingsRules: its walk. -/
open Go.RowKit
set_option linter.unusedVariables false

theorem rulesText_cases (l : List Rul) : (rulesText l).2 ≠ 0 ∨ (rulesText l = (rulesL l, 0) ∧ rulesRead atoiA (rulesL l) = (l, 0, 0)) := by
  unfold rulesText
  by_cases h : l.length ≤ 100 ∧ l.all rulOk = true
  · rw [if_pos h]
    by_cases h2 : 16384 < (rulesL l).length
    · rw [if_pos h2]; exact Or.inl (by simp)
    · rw [if_neg h2]; exact Or.inr ⟨rfl, rules_text (fun n h => atoiA_numL h) (List.all_eq_true.1 h.2) h.1 (by omega)⟩
  · rw [if_neg h]; exact Or.inl (by simp)
theorem keepR {wr x y : World} {b o : Nat} {v0 v1 v2 v3 : Value} (hbl : b < wr.heap.size) (h : x.cell? ⟨b, o, none⟩ = some v0 ∧ x.cell? ⟨b, o + 1, none⟩ = some v1 ∧ x.cell? ⟨b, o + 2, none⟩ = some v2 ∧ x.cell? ⟨b, o + 3, none⟩ = some v3 ∧ Below wr.heap.size wr x) (hx : Below x.heap.size x y) :
    y.cell? ⟨b, o, none⟩ = some v0 ∧ y.cell? ⟨b, o + 1, none⟩ = some v1 ∧ y.cell? ⟨b, o + 2, none⟩ = some v2 ∧ y.cell? ⟨b, o + 3, none⟩ = some v3 ∧ Below wr.heap.size wr y := by
  obtain ⟨h0, h1, h2, h3, h4⟩ := h
  have hb : b < x.heap.size := by have := h4.size; omega
  exact ⟨(hx.cell (p := ⟨b, o, none⟩) hb).trans h0, (hx.cell (p := ⟨b, o + 1, none⟩) hb).trans h1, (hx.cell (p := ⟨b, o + 2, none⟩) hb).trans h2, (hx.cell (p := ⟨b, o + 3, none⟩) hb).trans h3, bstep h4 hx⟩
theorem keepRB {wr x : World} {p : Prop} (h : p ∧ Below wr.heap.size wr x) : Below wr.heap.size wr x := h.2
set_option maxHeartbeats 8000000 in
set_option maxRecDepth 100000 in
theorem rulesLaw_any (A : Option Addr) (c : Nat) (l : List Rul) (w : World) (hT : TabH w) (hV : RulsV w (.slice A l.length c) l) (hl : l.length ≤ 140737488355328) (hh : HoldsR l) :
    Calls Tryz.prog 5 #[.slice A l.length c] w fun e w' => e = .returned (.bool true) ∧ Below w.heap.size w w' := by
  have p0 := huge_any A c l w hV hl hh
  have HV := Lib.hid hV
  clear hV hh
  go_enter Tryz.func5, Tryz.ntmps5
  go_wp2_with fail
  refine p0.mono ?_
  rintro e w0 ⟨⟨q, rfl, hq⟩, b0⟩
  cases q with
  | true =>
    clear hq p0
    go_wp2_with fail
    refine (awake_any _ (hT.below b0)).mono ?_
    rintro e w1 ⟨rfl, b1⟩
    go_wp2_with fail
    go_returns
    exact ⟨rfl, bstep b0 b1⟩
  | false =>
    have hS := Lib.hid (hq rfl)
    clear hq p0
    go_wp2_with fail
    go_loopw [3] (fun i wr => ∃ (k : Nat), i = .int .i64 k ∧ k ≤ l.length ∧ Below w.heap.size w wr) (fun i _ => l.length - (intOf i).toNat)
    case atStart => exact ⟨0, rfl, by omega, b0⟩
    case round =>
      obtain ⟨k, rfl, hk, hB⟩ := hrel
      by_cases hlt : k < l.length
      · have d1 : decide (k < l.length) = true := decide_eq_true hlt
        obtain ⟨b, o, A1, c1, A2, c2, rfl, hbl, g0, g1, g2, g3, hr⟩ := HV.out.at hlt
        have hsz := hS.out.2 l[k] (List.getElem_mem _)
        generalize l[k] = rr at *
        have q0 := (hB.cell (p := ⟨b, o + k * 4, none⟩) hbl).trans g0
        have q1 := (hB.cell (p := ⟨b, o + k * 4 + 1, none⟩) hbl).trans g1
        have q2 := (hB.cell (p := ⟨b, o + k * 4 + 2, none⟩) hbl).trans g2
        have q3 := (hB.cell (p := ⟨b, o + k * 4 + 3, none⟩) hbl).trans g3
        have hbw : b < wr.heap.size := by have := hB.size; omega
        have c1' := fun (W : World) (b : Below wr.heap.size wr W) => vrule_any rr A1 A2 c1 c2 W (hT.below (bstep hB b)).t (hr.below (bstep hB b)) hsz
        have c2' := fun (W : World) (b : Below wr.heap.size wr W) => rvrule_any rr A1 A2 c1 c2 W (hr.below (bstep hB b)) hsz
        have k0 : (0 : Int) ≤ (k : Int) := by omega
        have kl : (k : Int) < (l.length : Int) := by omega
        generalize rulOk rr = bv at *
        clear g0 g1 g2 g3 hr hsz
        go_wp2_with fail
        go_region_held3 (fun w' => w'.cell? ⟨b, o + k * 4, none⟩ = some (.int .i64 rr.op) ∧ w'.cell? ⟨b, o + k * 4 + 1, none⟩ = some (.slice A1 rr.target.length c1) ∧ w'.cell? ⟨b, o + k * 4 + 2, none⟩ = some (.slice A2 rr.tests.length c2) ∧ w'.cell? ⟨b, o + k * 4 + 3, none⟩ = some (.bool rr.uns) ∧ Below wr.heap.size wr w')
          (first | assumption | exact keepR hbw (by assumption) (by assumption) | exact ⟨q0, q1, q2, q3, (Below.refl _ _).drew⟩)
          (first
            | (go_at_call 22; refine (c1' _ (by have hz := ‹_ ∧ _ ∧ _ ∧ _ ∧ Below wr.heap.size wr _›; exact hz.2.2.2.2)).mono ?_; rintro e wx ⟨rfl, hbx⟩)
            | (go_at_call 23; refine (c2' _ (by have hz := ‹_ ∧ _ ∧ _ ∧ _ ∧ Below wr.heap.size wr _›; exact hz.2.2.2.2)).mono ?_; rintro e wx ⟨rfl, hbx⟩))
        all_goals
          have hz := ‹_ ∧ _ ∧ _ ∧ _ ∧ Below wr.heap.size wr _›
          go_wp2_with fail
          go_roundw
          case rel => exact ⟨k + 1, by go_num, by omega, bstep hB (by first | exact hz.2.2.2.2 | exact (keepR hbw hz (by assumption)).2.2.2.2)⟩
          case measure => simp [intOf]; omega
      · obtain rfl : k = l.length := by omega
        have d1 : decide (l.length < l.length) = false := decide_eq_false (by omega)
        have p1 := rtext_any A c l wr (hT.below hB) (HV.out.below hB) hS.out
        have p2 := fun (W : World) (b : Below wr.heap.size wr W) => rrtext_any A c l W (HV.out.below (bstep hB b)) hS.out
        have hcase := rulesText_cases l
        generalize rulesText l = TE at *
        obtain ⟨T, E⟩ := TE
        obtain ⟨TB, hTB⟩ : ∃ TB : ByteArray, (⟨T.toArray⟩ : ByteArray) = TB := ⟨_, rfl⟩
        have hTd : T = TB.data.toList := by rw [← hTB]
        dsimp only at *
        rw [hTB] at p1
        simp only [hTB] at p2
        have HC := Lib.hid hcase
        have HTD := Lib.hid hTd
        have P2 := Lib.hid p2
        clear p2 hTB hTd hcase
        go_wp2_with fail
        refine p1.mono ?_
        rintro e w1 ⟨rfl, b1⟩
        clear p1
        go_wp2_with fail
        refine (P2.out _ b1).mono ?_
        rintro e w2 ⟨rfl, b2⟩
        have k4 := bstep hB (bstep b1 b2)
        rcases HC.out with hE | ⟨hE, hP⟩
        · have hE2 : (((E : Nat) : Int) != 0) = true := by simpa using hE
          clear hE
          go_wp2_with fail
          refine (awake_any _ (hT.below k4)).mono ?_
          rintro e w5 ⟨rfl, b5⟩
          go_wp2_with fail
          go_returns
          exact ⟨rfl, bstep k4 b5⟩
        · obtain ⟨hE1, hE2⟩ := Prod.mk.inj hE
          have HP : Hid (rulesRead atoiA TB.data.toList = (l, 0, 0)) := by rw [Hid, ← HTD.out, hE1]; exact hP
          have hE0 : (((E : Nat) : Int) != 0) = false := by rw [hE2]; rfl
          clear hE hE1 hE2 hP
          have p5 := rules_any TB w2 (hT.below k4)
          rw [HP.out] at p5
          go_wp2_with fail
          refine p5.mono ?_
          rintro e w5 ⟨v, rfl, V, b5⟩
          obtain ⟨B, d, rfl⟩ : ∃ A c, v = .slice A l.length c := by
            obtain ⟨xs, ⟨A, c, rfl, h1, h2⟩, h3⟩ := V
            exact ⟨A, c, rfl⟩
          have k5 := bstep k4 b5
          have p6 := rsamer_any B A d c l l w5 V (HV.out.below k5) hS.out hS.out
          rw [decide_eq_true (rfl : l = l)] at p6
          clear p5 V
          go_wp2_with fail
          refine p6.mono ?_
          rintro e w6 ⟨rfl, b6⟩
          have k6 := bstep k5 b6
          clear p6
          go_wp2_with fail
          refine (awake_any _ (hT.below k6)).mono ?_
          rintro e w7 ⟨rfl, b7⟩
          go_wp2_with fail
          go_returns
          exact ⟨rfl, bstep k6 b7⟩
end Go.Proofs.YtplipnchkkhdaaaGreatDoor
