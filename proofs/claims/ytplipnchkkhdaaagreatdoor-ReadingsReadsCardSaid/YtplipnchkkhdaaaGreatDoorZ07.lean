/- Walks of layer 33: RuleText. -/
import Derived.Test.YtplipnchkkhdaaaGreatDoorZ06
import Derived.Lib.AtoiAll
import Derived.Lib.AtoiErrMem
import Derived.StillTailTactics
namespace Go.Proofs.YtplipnchkkhdaaaGreatDoor
open Go.RowKit
set_option linter.unusedVariables false

def SizedRs (l : List Rul) : Prop := l.length ≤ 1000000 ∧ ∀ r ∈ l, SizedR r
theorem RulsV.at {w : World} {A : Option Addr} {n c : Nat} {l : List Rul} (h : RulsV w (.slice A n c) l) {k : Nat} (hk : k < l.length) : ∃ b o A1 c1 A2 c2, A = some ⟨b, o, none⟩ ∧ b < w.heap.size ∧
    w.cell? ⟨b, o + k * 4, none⟩ = some (.int .i64 l[k].op) ∧ w.cell? ⟨b, o + k * 4 + 1, none⟩ = some (.slice A1 l[k].target.length c1) ∧ w.cell? ⟨b, o + k * 4 + 2, none⟩ = some (.slice A2 l[k].tests.length c2) ∧
    w.cell? ⟨b, o + k * 4 + 3, none⟩ = some (.bool l[k].uns) ∧ RulV w (.slice A1 l[k].target.length c1, .slice A2 l[k].tests.length c2) l[k] := by
  obtain ⟨xs, ⟨A', c', e, hc, hr⟩, ha⟩ := h
  have hl := ha.length
  cases e
  have hne : rulCells l xs ≠ [] := by
    intro e
    have := rulCells_len l xs hl
    rw [e] at this
    simp at this
    omega
  obtain ⟨b, o, rfl, hlt, hcell⟩ := hr hne
  obtain ⟨g1, g2, g3, g4⟩ := rulCells_get l xs k hk (by omega)
  have hv := ha.get k (by omega) hk
  generalize xs[k]'(by omega) = x at *
  obtain ⟨x1, x2⟩ := x
  obtain ⟨⟨A1, c1, e1, h1c, h1⟩, ⟨ys, ⟨A2, c2, e2, h2c, h2⟩, h3⟩⟩ := hv
  dsimp only at *
  subst e1 e2
  rw [show 4 * k = k * 4 by omega] at g1 g2 g3 g4
  exact ⟨b, o, A1, c1, A2, c2, rfl, hlt, hcell _ _ g1, hcell _ _ g2, hcell _ _ g3, hcell _ _ g4, ⟨A1, c1, rfl, h1c, h1⟩, ⟨ys, ⟨A2, c2, rfl, h2c, h2⟩, h3⟩⟩
theorem rule_any (r : Rul) (A1 A2 : Option Addr) (c1 c2 : Nat) (w : World) (hT : TabH w) (hV : RulV w (.slice A1 r.target.length c1, .slice A2 r.tests.length c2) r) (hok : rulOk r = true) :
    Calls Tryz.prog 54 #[.agg #[.int .i64 r.op, .slice A1 r.target.length c1, .slice A2 r.tests.length c2, .bool r.uns]] w fun e w' => e = .returned (.string ⟨(ruleL r).toArray⟩) ∧ Below w.heap.size w w' := by
  rcases (rulOk_four hok).1 with h | h
  · rw [h]; exact rule1_any r h A1 A2 c1 c2 w hT hV hok
  · rw [h]; exact rule2_any r h A1 A2 c1 c2 w hT hV hok
theorem ruleL_len {r : Rul} (h : rulOk r = true) : (ruleL r).length ≤ 200000 := by
  obtain ⟨_, h1, h2, h3⟩ := rulOk_four h
  have q1 := quoted_len (few_of_tags h1)
  have q2 : (r.tests.flatMap fun t => 32 :: testL t).length ≤ r.tests.length * 11001 := testsT_len r.tests h3
  have o1 := optL_len r.uns [33]
  have s1 : selB.length = 6 := rfl
  have s2 : remB.length = 6 := rfl
  have m := Nat.mul_le_mul_right 11001 h2
  unfold ruleL headL
  simp only [List.length_append, List.length_cons, List.length_nil] at *
  split <;> omega
theorem rulesL_len : ∀ (l : List Rul), (∀ c ∈ l, rulOk c = true) → (rulesL l).length ≤ l.length * 200001
  | [], _ => by simp [rulesL]
  | c :: l, h => by
    have h1 := ruleL_len (h c (by simp))
    have ih := rulesL_len l (fun x hx => h x (List.mem_cons_of_mem _ hx))
    unfold rulesL at *
    simp only [List.flatMap_cons, List.length_append, List.length_cons, List.length_nil] at *
    omega
theorem rulesL_succ {l : List Rul} {k : Nat} (h : k < l.length) : rulesL (l.take (k + 1)) = rulesL (l.take k) ++ (ruleL l[k] ++ [10]) := by
  unfold rulesL
  rw [List.take_succ_eq_append_getElem h, List.flatMap_append]
  simp
set_option maxHeartbeats 4000000 in
set_option maxRecDepth 100000 in
theorem rtext1_any (r : Rul) (A1 A2 : Option Addr) (c1 c2 : Nat) (w : World) (hT : Tabs w) (hV : RulV w (.slice A1 r.target.length c1, .slice A2 r.tests.length c2) r) (hl : SizedR r) :
    Calls Tryz.prog 53 #[.agg #[.int .i64 r.op, .slice A1 r.target.length c1, .slice A2 r.tests.length c2, .bool r.uns]] w fun e w' => e = .returned (.bool (!rulOk r)) ∧ Below w.heap.size w w' := by
  have bA : Below w.heap.size w (w.alloc (.cells #[.int .i64 r.op, .slice A1 r.target.length c1, .slice A2 r.tests.length c2, .bool r.uns] 42)) := (Below.refl _ _).alloc (Nat.le_refl _) _
  have p1 := vrule_any r A1 A2 c1 c2 _ (hT.below bA) (hV.below bA) hl
  generalize rulOk r = q at *
  clear hV hl
  go_enter Tryz.func53, Tryz.ntmps53
  go_wp2_with fail
  refine p1.mono ?_
  rintro x wx ⟨rfl, bx⟩
  go_wp2_with fail
  go_returns
  exact ⟨rfl, bstep bA bx⟩
set_option maxHeartbeats 4000000 in
set_option maxRecDepth 100000 in
theorem index_rules (A : Option Addr) (c : Nat) (l : List Rul) (w : World) (hT : Tabs w) (hV : RulsV w (.slice A l.length c) l) (hl : SizedRs l) :
    Calls Tryz.prog 88 #[.slice A l.length c, .func (.func 53) #[] #[]] w fun e w' => (∃ i : Int, e = .returned (.int .i64 i) ∧ -1 ≤ i ∧ i ≤ l.length ∧ (i < 0 ↔ l.all rulOk = true)) ∧ Below w.heap.size w w' := by
  obtain ⟨hl1, hl2⟩ := hl
  have HV := Lib.hid hV
  clear hV
  go_enter Tryz.func88, Tryz.ntmps88
  go_wp2_with fail
  go_loopw [4, 5, 8] (fun r _ i wr => r = .int .i64 0 ∧ ∃ k : Nat, i = .int .i64 k ∧ k ≤ l.length ∧ Below w.heap.size w wr ∧ Hid (∀ x ∈ l.take k, rulOk x = true)) (fun _ _ i _ => l.length - (intOf i).toNat)
  case atStart => exact ⟨rfl, 0, rfl, by omega, Below.refl _ _, by simp [Hid]⟩
  case round =>
    obtain ⟨rfl, k, rfl, hk, hB, HN⟩ := hrel
    by_cases hlt : k < l.length
    · obtain ⟨b, o, A1, c1, A2, c2, rfl, hbl, g0, g1, g2, g3, hr⟩ := HV.out.at hlt
      have q0 := (hB.cell (p := ⟨b, o + k * 4, none⟩) hbl).trans g0
      have q1 := (hB.cell (p := ⟨b, o + k * 4 + 1, none⟩) hbl).trans g1
      have q2 := (hB.cell (p := ⟨b, o + k * 4 + 2, none⟩) hbl).trans g2
      have q3 := (hB.cell (p := ⟨b, o + k * 4 + 3, none⟩) hbl).trans g3
      have k0 : (0 : Int) ≤ (k : Int) := by omega
      have k1 : (k : Int) < (l.length : Int) := by omega
      have p1 := rtext1_any l[k] A1 A2 c1 c2 wr (hT.below hB) (hr.below hB) (hl2 _ (List.getElem_mem _))
      have HS : Hid (rulOk l[k] = true → ∀ x ∈ l.take (k + 1), rulOk x = true) := fun h => all_take hlt HN.out h
      have HF : Hid (rulOk l[k] = false → l.all rulOk = false) := fun h => all_no hlt h
      generalize l[k] = rr at *
      generalize rulOk rr = q at *
      clear g0 g1 g2 g3 hr
      go_wp2_with fail
      refine p1.mono ?_
      rintro x wx ⟨rfl, bx⟩
      have hB2 := bstep hB bx
      cases q with
      | false =>
        have HX := Lib.hid (HF.out rfl)
        go_wp2_with fail
        go_returns
        exact ⟨⟨k, rfl, by omega, by omega, by rw [HX.out]; constructor <;> intro h <;> first | omega | cases h⟩, hB2⟩
      | true =>
        go_wp2_with fail
        go_roundw
        case rel => exact ⟨rfl, k + 1, by go_num, by omega, hB2, HS.out (by simp)⟩
        case measure => simp [intOf]; omega
    · obtain rfl : k = l.length := by omega
      have HX : Hid (l.all rulOk = true) := by rw [Hid, List.all_eq_true]; have := HN.out; rwa [List.take_length] at this
      go_wp2_with fail
      go_returns
      exact ⟨⟨-1, rfl, by omega, by omega, by rw [HX.out]; simp⟩, hB⟩
set_option maxHeartbeats 4000000 in
set_option maxRecDepth 100000 in
theorem contains_rules (A : Option Addr) (c : Nat) (l : List Rul) (w : World) (hT : Tabs w) (hV : RulsV w (.slice A l.length c) l) (hl : SizedRs l) :
    Calls Tryz.prog 52 #[.slice A l.length c, .func (.func 53) #[] #[]] w fun e w' => e = .returned (.bool (!l.all rulOk)) ∧ Below w.heap.size w w' := by
  have hi := index_rules A c l w hT hV hl
  clear hV hl hT
  go_enter Tryz.func52, Tryz.ntmps52
  go_wp2_with fail
  refine hi.mono ?_
  rintro x wx ⟨⟨i, rfl, i1, i2, i3⟩, bx⟩
  have HD : Hid ((!l.all rulOk) = decide (0 ≤ i)) := by
    unfold Hid
    by_cases h : i < 0
    · rw [i3.1 h, decide_eq_false (by omega)]; rfl
    · rw [decide_eq_true (by omega)]
      cases hq : l.all rulOk with
      | true => exact absurd (i3.2 hq) h
      | false => rfl
  clear i3
  go_wp2_with fail
  go_returns
  exact ⟨by rw [HD.out]; (try rfl), bx⟩
set_option maxHeartbeats 8000000 in
set_option maxRecDepth 100000 in
theorem rtext_any (A : Option Addr) (c : Nat) (l : List Rul) (w : World) (hT : TabH w) (hV : RulsV w (.slice A l.length c) l) (hl : SizedRs l) :
    Calls Tryz.prog 24 #[.slice A l.length c] w fun e w' => e = .returned (.tuple #[.string ⟨(rulesText l).1.toArray⟩, .int .i64 ((rulesText l).2 : Int)]) ∧ Below w.heap.size w w' := by
  have p1 := contains_rules A c l w hT.t hV hl
  have HV := Lib.hid hV
  have hlen := hl.1
  clear hV hl
  by_cases h100 : 100 < l.length
  · have HX : Hid (rulesText l = ([], 1)) := by unfold Hid rulesText; rw [if_neg (by omega)]
    have d1 : (100 : Int) < (l.length : Int) := by omega
    clear p1
    go_enter Tryz.func24, Tryz.ntmps24
    go_wp2_with fail
    go_returns
    exact ⟨by rw [HX.out]; (try rfl), Below.refl _ _⟩
  · have d1 : ¬ ((100 : Int) < (l.length : Int)) := by omega
    cases hq : l.all rulOk with
    | false =>
      have HX : Hid (rulesText l = ([], 1)) := by unfold Hid rulesText; rw [if_neg (by rw [hq]; simp)]
      rw [hq] at p1
      clear hq
      go_enter Tryz.func24, Tryz.ntmps24
      go_wp2_with fail
      refine p1.mono ?_
      rintro e w1 ⟨rfl, b1⟩
      go_wp2_with fail
      go_returns
      exact ⟨by rw [HX.out]; (try rfl), b1⟩
    | true =>
      have HX : Hid (rulesText l = limL (rulesL l)) := by unfold Hid rulesText limL; rw [if_pos ⟨by omega, hq⟩]
      have HOK : Hid (∀ r ∈ l, rulOk r = true) := by rw [Hid]; rwa [List.all_eq_true] at hq
      rw [hq] at p1
      clear hq
      go_enter Tryz.func24, Tryz.ntmps24
      go_wp2_with fail
      refine p1.mono ?_
      rintro e w1 ⟨rfl, b1⟩
      have hN := hT.below b1
      have B0 : Bld w1.heap.size w1.heap.size [] (w1.alloc (.cells #[.pointer none, .slice none 0 0] 69)) := Bld.new w1
      have bb : Below w1.heap.size w1 (w1.alloc (.cells #[.pointer none, .slice none 0 0] 69)) := (Below.refl _ _).alloc (Nat.le_refl _) _
      have HV1 := Lib.hid (HV.out.below b1)
      go_wp2_with fail
      go_loopw [16] (fun i wr => ∃ (k : Nat), i = .int .i64 k ∧ k ≤ l.length ∧ Bld w1.heap.size w1.heap.size (rulesL (l.take k)) wr ∧ Below w1.heap.size w1 wr ∧ w1.heap.size < wr.heap.size) (fun i _ => l.length - (intOf i).toNat)
      case atStart => exact ⟨0, rfl, by omega, by simpa [rulesL] using B0, bb, by simp⟩
      case round =>
        obtain ⟨k, rfl, hk, hbl, hB, hlt0⟩ := hrel
        by_cases hlt : k < l.length
        · obtain ⟨b, o, A1, c1, A2, c2, rfl, hbl0, g0, g1, g2, g3, hr⟩ := HV1.out.at hlt
          have hok := HOK.out l[k] (List.getElem_mem _)
          have hfl := ruleL_len hok
          have HS := Lib.hid (rulesL_succ hlt)
          have hZ := rulesL_len (l.take k) (fun c hc => HOK.out c (List.mem_of_mem_take hc))
          generalize l[k] = rr at *
          have q0 := (hB.cell (p := ⟨b, o + k * 4, none⟩) hbl0).trans g0
          have q1 := (hB.cell (p := ⟨b, o + k * 4 + 1, none⟩) hbl0).trans g1
          have q2 := (hB.cell (p := ⟨b, o + k * 4 + 2, none⟩) hbl0).trans g2
          have q3 := (hB.cell (p := ⟨b, o + k * 4 + 3, none⟩) hbl0).trans g3
          have k0 : (0 : Int) ≤ (k : Int) := by omega
          have kl : (k : Int) < (l.length : Int) := by omega
          have bC : Below wr.heap.size wr (wr.alloc (.cells #[.int .i64 rr.op, .slice A1 rr.target.length c1, .slice A2 rr.tests.length c2, .bool rr.uns] 42)) := (Below.refl _ _).alloc (Nat.le_refl _) _
          have p2 := rule_any rr A1 A2 c1 c2 _ (hN.below (bstep hB bC)) ((hr.below hB).below bC) hok
          obtain ⟨Q, hQ⟩ : ∃ Q : ByteArray, (⟨(ruleL rr).toArray⟩ : ByteArray) = Q := ⟨_, rfl⟩
          rw [hQ] at p2
          have hQd : Q.data.toList = ruleL rr := by rw [← hQ]
          have hQs : Q.size ≤ 200000 := by rw [Lib.size_eq, hQd]; exact hfl
          rw [List.length_take] at hZ
          have hlen2 : (rulesL (l.take k)).length ≤ 40000000 := by
            have := Nat.mul_le_mul_right 200001 (show min k l.length ≤ 100 by omega)
            omega
          have HQd := Lib.hid hQd
          have hzq : (Q ++ (⟨#[10]⟩ : ByteArray)).size = Q.size + 1 := by rw [size_cat]; rfl
          clear hQ hQd hok hfl g0 g1 g2 g3 hr hZ
          go_wp2_with fail
          refine p2.mono ?_
          rintro e w3 ⟨rfl, b3⟩
          have hbl3 := (hbl.below bC).below b3
          have hB3 := hB.trans ((bC.mono hB.size).trans (b3.mono (by have := hB.size; have := bC.size; omega)))
          have p3 := WriteStr_any w1.heap.size w1.heap.size (rulesL (l.take k)) (Q ++ ⟨#[10]⟩) w3 hbl3 (by rw [hzq]; omega) hB3.size
          clear hzq
          go_wp2_with fail
          refine p3.mono ?_
          rintro e w4 ⟨rfl, hbl4, b4, o4⟩
          have HE : Hid (rulesL (l.take k) ++ (Q ++ (⟨#[10]⟩ : ByteArray)).data.toList = rulesL (l.take (k + 1))) := by
            rw [Hid, HS.out, Joins.data_append, HQd.out]
          have hz : w1.heap.size < w4.heap.size := by have := b3.size; have := b4.size; have := bC.size; omega
          have hB4 := hB3.trans b4
          go_wp2_with fail
          go_roundw
          case rel => exact ⟨k + 1, by go_num, by omega, by rw [← HE.out]; exact hbl4, hB4, hz⟩
          case measure => simp [intOf]; omega
        · obtain rfl : k = l.length := by omega
          rw [List.take_length] at hbl
          have p7 := String_any w1.heap.size w1.heap.size (rulesL l) wr hbl hB.size
          obtain ⟨T, hT2⟩ : ∃ T : ByteArray, (⟨(rulesL l).toArray⟩ : ByteArray) = T := ⟨_, rfl⟩
          have hTd : T.data.toList = rulesL l := by rw [← hT2]
          rw [hT2] at p7
          have p8 := fun W => limited_any T W
          rw [hTd] at p8
          have HXX := HX.out
          rw [← HXX] at p8
          clear hT2 hTd HXX
          go_wp2_with fail
          refine p7.mono ?_
          rintro e w7 ⟨rfl, b7⟩
          go_wp2_with fail
          refine (p8 _).mono ?_
          rintro e w8 ⟨rfl, rfl⟩
          go_wp2_with fail
          go_returns
          exact ⟨rfl, bstep b1 (hB.trans b7)⟩

/- Walks of layer 33: the header of a test; where a test opens. -/
open Go.RowKit
set_option linter.unusedVariables false

/-- the number that Atoi reads -/
def atoiA (s : Bs) : Option Int := match Lib.atoiAll s with | .ok v => some v | _ => none
theorem atoiA_numL {n : Int} (h : -99 ≤ n ∧ n ≤ 99) : atoiA (numL n) = some n := by
  have p : ∀ k : Nat, k < 100 → atoiA (numL (k : Int)) = some (k : Int) ∧ atoiA (numL (-(k : Int))) = some (-(k : Int)) := by decide +kernel
  obtain ⟨p1, p2⟩ := p n.natAbs (by omega)
  rcases Int.le_total 0 n with h0 | h0
  · rwa [show (n.natAbs : Int) = n by omega] at p1
  · rwa [show (-(n.natAbs : Int)) = n by omega] at p2
theorem cutHead_lib (s : Bs) (c : UInt8) : (Lib.trimPrefix s [c], Lib.hasPrefix s [c]) = cutHead s c := by
  cases s with
  | nil => rfl
  | cons x r =>
    unfold cutHead Lib.trimPrefix Lib.hasPrefix
    by_cases h : x = c
    · subst h; simp [List.isPrefixOf]
    · have h' : (c == x) = false := by simp; exact fun e => h e.symm
      simp [List.isPrefixOf, h', h]
theorem getLast?_suffix (s : Bs) (c : UInt8) : List.isSuffixOf [c] s = decide (s.getLast? = some c) := by
  unfold List.isSuffixOf
  rw [List.getLast?_eq_head?_reverse]
  cases s.reverse with
  | nil => rfl
  | cons x r =>
    by_cases h : x = c
    · subst h; simp [List.isPrefixOf]
    · have h' : (c == x) = false := by simp; exact fun e => h e.symm
      simp [List.isPrefixOf, h', h]
theorem cutEnd_lib (s : Bs) (c : UInt8) : (Lib.trimSuffix s [c], Lib.hasSuffix s [c]) = cutEnd s c := by
  unfold cutEnd Lib.trimSuffix Lib.hasSuffix
  rw [getLast?_suffix]
  by_cases h : s.getLast? = some c
  · rw [decide_eq_true h, if_pos h]; simp [List.dropLast_eq_take]
  · rw [decide_eq_false h, if_neg h]; simp
theorem cutHead_len (s : Bs) (c : UInt8) : (cutHead s c).1.length ≤ s.length := by
  unfold cutHead
  split
  · simp
  · split <;> simp
theorem cutEnd_len (s : Bs) (c : UInt8) : (cutEnd s c).1.length ≤ s.length := by
  unfold cutEnd
  split <;> simp
theorem cutPre_any (s : ByteArray) (c : UInt8) (w : World) : Calls Tryz.prog 94 #[.string s, .string ⟨#[c]⟩] w fun e w' => e = .returned (.tuple #[.string ⟨(cutHead s.data.toList c).1.toArray⟩, .bool (cutHead s.data.toList c).2]) ∧ w = w' := by
  refine (Tryz.strings_CutPrefix s ⟨#[c]⟩ w).mono ?_
  rintro e w' ⟨rfl, rfl⟩
  rw [← cutHead_lib]
  exact ⟨rfl, rfl⟩
theorem cutSuf_any (s : ByteArray) (c : UInt8) (w : World) (hs : s.size ≤ 9223372036854775807) : Calls Tryz.prog 57 #[.string s, .string ⟨#[c]⟩] w fun e w' => e = .returned (.tuple #[.string ⟨(cutEnd s.data.toList c).1.toArray⟩, .bool (cutEnd s.data.toList c).2]) ∧ w = w' := by
  refine (Tryz.strings_CutSuffix s ⟨#[c]⟩ w hs).mono ?_
  rintro e w' ⟨rfl, rfl⟩
  rw [← cutEnd_lib]
  exact ⟨rfl, rfl⟩
theorem fzB {w : World} {b : Nat} {A : Array Value} {t : TypeId} (h : w.heap[b]? = some (.cells A t (0, 0))) (o : Nat) : w.frozen? ⟨b, o, none⟩ = false := by
  unfold World.frozen?; rw [h]; simp
/-- Atoi at every string: a number, or an error that is not nil -/
theorem atoi_any (s : ByteArray) (w : World) (hs : s.size ≤ 281474976710656) (hT : TabH w) :
    Calls Tryz.prog 95 #[.string s] w fun e w' => ∃ (n : Int) (ev : Value), e = .returned (.tuple #[.int .i64 n, ev]) ∧ (∀ v, atoiA s.data.toList = some v → n = v ∧ ev = .nilIface) ∧ (atoiA s.data.toList = none → ∃ N, ev = .iface 148 (.pointer (some ⟨N, 0, none⟩))) ∧ Below w.heap.size w w' := by
  obtain ⟨te, pe, hsyn⟩ := hT.t.syn
  obtain ⟨te2, pe2, hrng⟩ := hT.rng
  cases h : Lib.atoiAll s.data.toList with
  | ok v =>
    refine (Tryz.strconv_Atoi_ok s (by omega) v h w).mono ?_
    rintro e w' ⟨rfl, hb⟩
    refine ⟨v, _, rfl, fun u hu => ?_, fun hn => ?_, ?_⟩
    · unfold atoiA at hu; rw [h] at hu; exact ⟨by simpa using hu, rfl⟩
    · unfold atoiA at hn; rw [h] at hn; cases hn
    · rcases hb with rfl | ⟨t, rfl⟩
      · exact Below.refl _ _
      · exact Lib.bytesWorld_below _ _ _
  | range =>
    refine (Tryz.strconv_Atoi_range s hs h _ w hrng (Or.inr ⟨_, _, rfl⟩)).mono ?_
    rintro e w' ⟨N, rfl, _, _, hb⟩
    refine ⟨_, _, rfl, fun u hu => ?_, fun _ => ⟨N, rfl⟩, hb⟩
    unfold atoiA at hu; rw [h] at hu; cases hu
  | _ =>
    refine (Tryz.strconv_Atoi_syntax s hs h _ w hsyn (Or.inr ⟨_, _, rfl⟩)).mono ?_
    rintro e w' ⟨N, rfl, _, _, hb⟩
    refine ⟨0, _, rfl, fun u hu => ?_, fun _ => ⟨N, rfl⟩, hb⟩
    unfold atoiA at hu; rw [h] at hu; cases hu
set_option maxHeartbeats 4000000 in
set_option maxRecDepth 100000 in
theorem header_any (s : ByteArray) (w : World) (hs : s.size ≤ 20000) (hT : TabH w) :
    Calls Tryz.prog 62 #[.string s] w fun e w' => (∀ t, hdrRead atoiA s.data.toList = some t → e = .returned (.agg #[.int .i64 t.at_, .bool t.scan, .bool t.not_, .bool t.careful, .slice none 0 0, .slice none 0 0]) ∧ t.tags = [] ∧ t.barrier = []) ∧ (hdrRead atoiA s.data.toList = none → e = wrongP) ∧ Below w.heap.size w w' := by
  have HX : Hid (hdrRead atoiA s.data.toList = match atoiA (cutEnd (cutEnd (cutHead s.data.toList 33).1 67).1 42).1 with
    | some n => some ⟨n, (cutEnd (cutEnd (cutHead s.data.toList 33).1 67).1 42).2, (cutHead s.data.toList 33).2, (cutEnd (cutHead s.data.toList 33).1 67).2, [], []⟩
    | none => none) := rfl
  have p1 := fun W => cutPre_any s 33 W
  have l1 := cutHead_len s.data.toList 33
  generalize cutHead s.data.toList 33 = a at *
  obtain ⟨a1, a2⟩ := a
  obtain ⟨A1, hA1⟩ : ∃ A : ByteArray, (⟨a1.toArray⟩ : ByteArray) = A := ⟨_, rfl⟩
  obtain rfl : a1 = A1.data.toList := by rw [← hA1]
  dsimp only at l1
  have p2 := fun W => cutSuf_any A1 67 W (by rw [Lib.size_eq] at *; omega)
  have l2 := cutEnd_len A1.data.toList 67
  generalize cutEnd A1.data.toList 67 = b at *
  obtain ⟨b1, b2⟩ := b
  obtain ⟨B1, hB1⟩ : ∃ A : ByteArray, (⟨b1.toArray⟩ : ByteArray) = A := ⟨_, rfl⟩
  obtain rfl : b1 = B1.data.toList := by rw [← hB1]
  dsimp only at l2
  have p3 := fun W => cutSuf_any B1 42 W (by rw [Lib.size_eq] at *; omega)
  have l3 := cutEnd_len B1.data.toList 42
  generalize cutEnd B1.data.toList 42 = c at *
  obtain ⟨c1, c2⟩ := c
  obtain ⟨C1, hC1⟩ : ∃ A : ByteArray, (⟨c1.toArray⟩ : ByteArray) = A := ⟨_, rfl⟩
  obtain rfl : c1 = C1.data.toList := by rw [← hC1]
  dsimp only at l3
  have hCs : C1.size ≤ 281474976710656 := by rw [Lib.size_eq] at *; omega
  dsimp only at *
  simp only [hA1, hB1, hC1] at *
  have p4 := need_yes
  have p5 := need_no
  clear l1 l2 l3 hA1 hB1 hC1
  go_enter Tryz.func62, Tryz.ntmps62
  go_wp2_with fail
  refine (p1 _).mono ?_
  rintro e w1 ⟨rfl, rfl⟩
  go_wp2_with fail
  refine (p2 _).mono ?_
  rintro e w1 ⟨rfl, rfl⟩
  go_wp2_with fail
  refine (p3 _).mono ?_
  rintro e w1 ⟨rfl, rfl⟩
  go_wp2_with fail
  obtain ⟨W, hW⟩ : ∃ W, W = (w.alloc (.cells #[.int .i64 0, .bool false, .bool false, .bool false, .slice none 0 0, .slice none 0 0] 79)).alloc (.cells #[.int .i64 0, .bool c2, .bool a2, .bool b2, .slice none 0 0, .slice none 0 0] 79) := ⟨_, rfl⟩
  rw [← hW]
  have bW : Below w.heap.size w W := by rw [hW]; exact ((Below.refl _ _).alloc (Nat.le_refl _) _).alloc (by simp) _
  have hz : W.heap.size = w.heap.size + 2 := by rw [hW]; simp
  have hb1 : W.heap[w.heap.size]? = some (.cells #[.int .i64 0, .bool false, .bool false, .bool false, .slice none 0 0, .slice none 0 0] 79 (0, 0)) := by
    rw [hW]
    exact (((Below.refl _ _).alloc (Nat.le_refl _) _).block w.heap.size (by simp)).trans (heap_alloc_new w _)
  have hb2 : W.heap[w.heap.size + 1]? = some (.cells #[.int .i64 0, .bool c2, .bool a2, .bool b2, .slice none 0 0, .slice none 0 0] 79 (0, 0)) := by
    rw [hW]
    have := heap_alloc_new (w.alloc (.cells #[.int .i64 0, .bool false, .bool false, .bool false, .slice none 0 0, .slice none 0 0] 79)) (.cells #[.int .i64 0, .bool c2, .bool a2, .bool b2, .slice none 0 0, .slice none 0 0] 79)
    simpa using this
  have p6 := atoi_any C1 W hCs (hT.below bW)
  clear hW
  refine p6.mono ?_
  rintro e W2 ⟨n, ev, rfl, h1, h2, b2'⟩
  have hc1 := (b2'.block _ (by omega)).trans hb1
  have hc2 := (b2'.block _ (by omega)).trans hb2
  have hz2 := b2'.size
  have bW2 := bstep bW b2'
  cases hq : atoiA C1.data.toList with
  | none =>
    obtain ⟨N, rfl⟩ := h2 hq
    have HX2 : Hid (hdrRead atoiA s.data.toList = none) := by rw [Hid, HX.out, hq]
    clear hq h1 h2 hc1 hc2 hb1 hb2
    go_wp2_with fail
    refine (p5 _).mono ?_
    rintro e w3 ⟨rfl, rfl⟩
    unfold wrongP
    refine ⟨rfl, fun t ht => ?_, fun _ => rfl, bW2⟩
    rw [HX2.out] at ht; cases ht
  | some v =>
    obtain ⟨rfl, rfl⟩ := h1 v hq
    have HX2 : Hid (hdrRead atoiA s.data.toList = some { at_ := n, scan := c2, not_ := a2, careful := b2, tags := [], barrier := [] }) := by rw [Hid, HX.out, hq]
    have k0 := cell_of_row W2 (w.heap.size + 1) 0 _ _ (0, 0) hc2
    have k1 := cell_of_row W2 (w.heap.size + 1) 1 _ _ (0, 0) hc2
    have k2 := cell_of_row W2 (w.heap.size + 1) 2 _ _ (0, 0) hc2
    have k3 := cell_of_row W2 (w.heap.size + 1) 3 _ _ (0, 0) hc2
    have k4 := cell_of_row W2 (w.heap.size + 1) 4 _ _ (0, 0) hc2
    have k5 := cell_of_row W2 (w.heap.size + 1) 5 _ _ (0, 0) hc2
    have f0 := fzB hc2 0
    have c0 := cell_of_row W2 w.heap.size 0 _ _ (0, 0) hc1
    have c1 := cell_of_row W2 w.heap.size 1 _ _ (0, 0) hc1
    have c2 := cell_of_row W2 w.heap.size 2 _ _ (0, 0) hc1
    have c3 := cell_of_row W2 w.heap.size 3 _ _ (0, 0) hc1
    have c4 := cell_of_row W2 w.heap.size 4 _ _ (0, 0) hc1
    have c5 := cell_of_row W2 w.heap.size 5 _ _ (0, 0) hc1
    have j0 := fzB hc1 0
    have j1 := fzB hc1 1
    have j2 := fzB hc1 2
    have j3 := fzB hc1 3
    have j4 := fzB hc1 4
    have j5 := fzB hc1 5
    clear hq h1 h2 hb1 hb2 hc1 hc2
    simp at k0 k1 k2 k3 k4 k5 c0 c1 c2 c3 c4 c5
    go_wp2_with fail
    refine (p4 _).mono ?_
    rintro e w3 ⟨rfl, rfl⟩
    go_wp2_with fail
    (try simp only [Exit.inBlock, Exit.then])
    refine bodyPost_ret (by simp [results, Tryz.results62, go_sem, c0, c1, c2, c3, c4, c5]; try rfl) rfl ?_
    refine ⟨fun t ht => ?_, fun hn => ?_, ?_⟩
    · rw [HX2.out] at ht
      cases ht
      exact ⟨rfl, rfl, rfl⟩
    · rw [HX2.out] at hn; cases hn
    · repeat (refine Below.setCell ?_ (by simp) _)
      exact bW2
theorem opens_lib (s : Bs) : Lib.hasPrefix s [40] = opens s := by
  cases s with
  | nil => rfl
  | cons x r => unfold Lib.hasPrefix opens; simp [List.isPrefixOf, Bool.beq_comm]
set_option maxHeartbeats 1000000 in
theorem opens1_any (s : ByteArray) (w : World) : Calls Tryz.prog 59 #[.string s] w fun e w' => e = .returned (.bool (opens s.data.toList)) ∧ Below w.heap.size w w' := by
  have p1 := Tryz.strings_HasPrefix s ⟨#[40]⟩ w
  have e1 : Lib.hasPrefix s.data.toList (⟨#[40]⟩ : ByteArray).data.toList = opens s.data.toList := opens_lib _
  rw [e1] at p1
  generalize opens s.data.toList = q at *
  go_enter Tryz.func59, Tryz.ntmps59
  go_wp2_with fail
  refine p1.mono ?_
  rintro x wx ⟨rfl, rfl⟩
  go_wp2_with fail
  go_returns
  exact ⟨rfl, Below.refl _ _⟩
set_option maxHeartbeats 1000000 in
set_option maxRecDepth 100000 in
theorem index_opens1 (A : Option Addr) (c : Nat) (l : List Bs) (w : World) (hrow : RowAt w A (l.map S)) (hl : l.length ≤ 1000000000) :
    Calls Tryz.prog 58 #[.slice A l.length c, .func (.func 59) #[] #[]] w fun e w' => e = .returned (.int .i64 (idxB opens l)) ∧ Below w.heap.size w w' := by
  have HC : Hid (∀ k (hk : k < l.length), ∃ b o, A = some ⟨b, o, none⟩ ∧ b < w.heap.size ∧ w.cell? ⟨b, o + k, none⟩ = some (S l[k])) := by
    intro k hk
    obtain ⟨b, o, rfl, hlt, hc⟩ := hrow (by intro e; have := congrArg List.length e; simp at this; subst this; simp at hk)
    exact ⟨b, o, rfl, hlt, hc k _ (getS hk)⟩
  clear hrow
  go_enter Tryz.func58, Tryz.ntmps58
  go_wp2_with fail
  go_loopw [4, 5, 8] (fun r _ i wr => r = .int .i64 0 ∧ ∃ k : Nat, i = .int .i64 k ∧ k ≤ l.length ∧ Below w.heap.size w wr ∧ Hid (∀ x ∈ l.take k, opens x = false)) (fun _ _ i _ => l.length - (intOf i).toNat)
  case atStart => exact ⟨rfl, 0, rfl, by omega, Below.refl _ _, by simp [Hid]⟩
  case round =>
    obtain ⟨rfl, k, rfl, hk, hB, HN⟩ := hrel
    by_cases hlt : k < l.length
    · obtain ⟨b, o, rfl, hbl, hcell⟩ := HC.out k hlt
      have hcell2 : wr.cell? ⟨b, o + k, none⟩ = some (.string ⟨l[k].toArray⟩) := (hB.cell (p := ⟨b, o + k, none⟩) hbl).trans hcell
      have k0 : (0 : Int) ≤ (k : Int) := by omega
      have k1 : (k : Int) < (l.length : Int) := by omega
      have p1 := opens1_any ⟨l[k].toArray⟩ wr
      have HS : Hid (opens l[k] = false → ∀ x ∈ l.take (k + 1), opens x = false) := by
        intro h x hx
        rw [List.take_succ_eq_append_getElem hlt] at hx
        rcases List.mem_append.1 hx with hx | hx
        · exact HN.out x hx
        · simp only [List.mem_singleton] at hx; subst hx; exact h
      have HF : Hid (opens l[k] = true → idxB opens l = k) := idxB_skip _ l k hlt HN.out
      have hq : opens (⟨l[k].toArray⟩ : ByteArray).data.toList = opens l[k] := rfl
      rw [hq] at p1
      clear hcell hq
      generalize opens l[k] = q at p1 HS HF
      generalize l[k] = y at hcell2 p1
      go_wp2_with fail
      refine p1.mono ?_
      rintro x wx ⟨rfl, bx⟩
      have hB2 := bstep hB bx
      cases q with
      | true =>
        have HX := Lib.hid (HF.out rfl)
        go_wp2_with fail
        go_returns
        exact ⟨by rw [HX.out]; (try rfl), hB2⟩
      | false =>
        go_wp2_with fail
        go_roundw
        case rel => exact ⟨rfl, k + 1, by go_num, by omega, hB2, HS.out (by simp)⟩
        case measure => simp [intOf]; omega
    · obtain rfl : k = l.length := by omega
      have HX : Hid (idxB opens l = -1) := idxB_none _ l (by have := HN.out; rwa [List.take_length] at this)
      go_wp2_with fail
      go_returns
      exact ⟨by rw [HX.out]; (try rfl), hB⟩
set_option maxHeartbeats 1000000 in
theorem opens2_any (s : ByteArray) (w : World) : Calls Tryz.prog 61 #[.string s] w fun e w' => e = .returned (.bool (opens s.data.toList)) ∧ Below w.heap.size w w' := by
  have p1 := Tryz.strings_HasPrefix s ⟨#[40]⟩ w
  have e1 : Lib.hasPrefix s.data.toList (⟨#[40]⟩ : ByteArray).data.toList = opens s.data.toList := opens_lib _
  rw [e1] at p1
  generalize opens s.data.toList = q at *
  go_enter Tryz.func61, Tryz.ntmps61
  go_wp2_with fail
  refine p1.mono ?_
  rintro x wx ⟨rfl, rfl⟩
  go_wp2_with fail
  go_returns
  exact ⟨rfl, Below.refl _ _⟩
set_option maxHeartbeats 1000000 in
set_option maxRecDepth 100000 in
theorem index_opens2 (A : Option Addr) (c : Nat) (l : List Bs) (w : World) (hrow : RowAt w A (l.map S)) (hl : l.length ≤ 1000000000) :
    Calls Tryz.prog 58 #[.slice A l.length c, .func (.func 61) #[] #[]] w fun e w' => e = .returned (.int .i64 (idxB opens l)) ∧ Below w.heap.size w w' := by
  have HC : Hid (∀ k (hk : k < l.length), ∃ b o, A = some ⟨b, o, none⟩ ∧ b < w.heap.size ∧ w.cell? ⟨b, o + k, none⟩ = some (S l[k])) := by
    intro k hk
    obtain ⟨b, o, rfl, hlt, hc⟩ := hrow (by intro e; have := congrArg List.length e; simp at this; subst this; simp at hk)
    exact ⟨b, o, rfl, hlt, hc k _ (getS hk)⟩
  clear hrow
  go_enter Tryz.func58, Tryz.ntmps58
  go_wp2_with fail
  go_loopw [4, 5, 8] (fun r _ i wr => r = .int .i64 0 ∧ ∃ k : Nat, i = .int .i64 k ∧ k ≤ l.length ∧ Below w.heap.size w wr ∧ Hid (∀ x ∈ l.take k, opens x = false)) (fun _ _ i _ => l.length - (intOf i).toNat)
  case atStart => exact ⟨rfl, 0, rfl, by omega, Below.refl _ _, by simp [Hid]⟩
  case round =>
    obtain ⟨rfl, k, rfl, hk, hB, HN⟩ := hrel
    by_cases hlt : k < l.length
    · obtain ⟨b, o, rfl, hbl, hcell⟩ := HC.out k hlt
      have hcell2 : wr.cell? ⟨b, o + k, none⟩ = some (.string ⟨l[k].toArray⟩) := (hB.cell (p := ⟨b, o + k, none⟩) hbl).trans hcell
      have k0 : (0 : Int) ≤ (k : Int) := by omega
      have k1 : (k : Int) < (l.length : Int) := by omega
      have p1 := opens2_any ⟨l[k].toArray⟩ wr
      have HS : Hid (opens l[k] = false → ∀ x ∈ l.take (k + 1), opens x = false) := by
        intro h x hx
        rw [List.take_succ_eq_append_getElem hlt] at hx
        rcases List.mem_append.1 hx with hx | hx
        · exact HN.out x hx
        · simp only [List.mem_singleton] at hx; subst hx; exact h
      have HF : Hid (opens l[k] = true → idxB opens l = k) := idxB_skip _ l k hlt HN.out
      have hq : opens (⟨l[k].toArray⟩ : ByteArray).data.toList = opens l[k] := rfl
      rw [hq] at p1
      clear hcell hq
      generalize opens l[k] = q at p1 HS HF
      generalize l[k] = y at hcell2 p1
      go_wp2_with fail
      refine p1.mono ?_
      rintro x wx ⟨rfl, bx⟩
      have hB2 := bstep hB bx
      cases q with
      | true =>
        have HX := Lib.hid (HF.out rfl)
        go_wp2_with fail
        go_returns
        exact ⟨by rw [HX.out]; (try rfl), hB2⟩
      | false =>
        go_wp2_with fail
        go_roundw
        case rel => exact ⟨rfl, k + 1, by go_num, by omega, hB2, HS.out (by simp)⟩
        case measure => simp [intOf]; omega
    · obtain rfl : k = l.length := by omega
      have HX : Hid (idxB opens l = -1) := idxB_none _ l (by have := HN.out; rwa [List.take_length] at this)
      go_wp2_with fail
      go_returns
      exact ⟨by rw [HX.out]; (try rfl), hB⟩
/-- the first word that opens, as the program finds it -/
theorem idxB_opens : ∀ l : List Bs, (if idxB opens l < 0 then (l.length : Int) else idxB opens l) = opensAt l
  | [] => rfl
  | x :: r => by
    have ih := idxB_opens r
    unfold idxB opensAt
    by_cases h : opens x = true
    · rw [if_pos h, if_pos h]; rfl
    · rw [if_neg h, if_neg h]
      simp only
      by_cases hk : idxB opens r < 0
      · rw [if_pos hk] at ih ⊢; rw [if_pos (by omega)]; simp only [List.length_cons]; omega
      · rw [if_neg hk] at ih ⊢; rw [if_neg (by omega)]; omega
theorem opensAt_le : ∀ l : List Bs, opensAt l ≤ l.length
  | [] => Nat.le_refl _
  | x :: r => by
    have := opensAt_le r
    unfold opensAt
    split
    · omega
    · simp only [List.length_cons]; omega

/- Rows that a function of its own makes, whose elements hold slices; names of a test. -/
open Go.RowKit
set_option linter.unusedVariables false

/-- a row of its own, of structs; what these hold stays as it is -/
def RowL {α : Type} (T : TypeId) (size : Nat) (cells : List α → List (Value × Value) → List Value) (R : World → Value × Value → α → Prop) (n1 : Nat) (w : World) (x : Value) (l : List α) : Prop :=
  ∃ xs, xs.length = l.length ∧ w.ownsRow n1 T size x l.length (cells l xs) ∧ Firm (fun b => b < n1 ∨ x.ownBlock = some b) w (fun w => AllP (R w) xs l)
theorem RowL.chg {α : Type} {T : TypeId} {size : Nat} {cells : List α → List (Value × Value) → List Value} {R : World → Value × Value → α → Prop} {n1 : Nat} {w w' : World} {x : Value} {l : List α} {X : Nat → Prop}
    (h : RowL T size cells R n1 w x l) (hc : Chg X w w') (hX : ∀ b, b < w.heap.size → X b → b < n1) : RowL T size cells R n1 w' x l := by
  obtain ⟨xs, h1, h2, h3⟩ := h
  refine ⟨xs, h1, own_chg h2 hc fun g hg hx => ?_, h3.step hc (fun b hb hx => Or.inl (hX b hb hx)) (fun b _ h => h)⟩
  have := h2.lt g hg
  have := hX g this.2 hx
  omega
theorem RowL.add {α : Type} {T : TypeId} {size : Nat} {cells : List α → List (Value × Value) → List Value} {R : World → Value × Value → α → Prop} {n1 : Nat} {w w' : World} {x : Value} {l : List α} {a : α} {p : Value × Value} {xs : List (Value × Value)} {g cap : Nat} {cs : List Value}
    (h1 : xs.length = l.length) (h2 : w.ownsRow n1 T size x l.length (cells l xs)) (h3 : Firm (fun b => b < n1 ∨ x.ownBlock = some b) w (fun w => AllP (R w) xs l)) (hp : Firm (fun b => b < n1 ∨ x.ownBlock = some b) w (fun w => R w p a))
    (hcs : cells (l ++ [a]) (xs ++ [p]) = cells l xs ++ cs) (hown : w'.ownsRow n1 T size (.slice (some ⟨g, 0, none⟩) (l.length + 1) cap) (l.length + 1) (cells l xs ++ cs))
    (hgr : w.grownBy w' x.ownBlock) (hat : x.ownBlock = some g ∨ w.heap.size ≤ g) : RowL T size cells R n1 w' (.slice (some ⟨g, 0, none⟩) (l.length + 1) cap) (l ++ [a]) := by
  have hc := Chg.of_grown hgr
  refine ⟨xs ++ [p], by simp [h1], ?_, ?_⟩
  · rw [List.length_append, hcs]; exact hown
  · refine ((h3.and hp).step (X' := fun b => b < n1 ∨ (Value.slice (some ⟨g, 0, none⟩) (l.length + 1) cap).ownBlock = some b) hc (fun b _ e => Or.inr e) (fun b hb e => ?_)).mono fun w h => h.1.snoc h.2
    rcases e with e | e
    · exact Or.inl e
    · simp only [Value.ownBlock, Option.some.injEq] at e
      subst e
      rcases hat with h | h
      · exact Or.inr h
      · omega
theorem RowL.nil {α : Type} {T : TypeId} {size : Nat} {cells : List α → List (Value × Value) → List Value} {R : World → Value × Value → α → Prop} (n1 : Nat) (w : World) (hn : cells [] [] = []) : RowL T size cells R n1 w (.slice none 0 0) [] :=
  ⟨[], rfl, by rw [hn]; exact World.ownsRow_nil _ _ _ _, fun _ _ _ => trivial⟩
theorem RowL.form {α : Type} {T : TypeId} {size : Nat} {cells : List α → List (Value × Value) → List Value} {R : World → Value × Value → α → Prop} {n1 : Nat} {w : World} {x : Value} {l : List α} (h : RowL T size cells R n1 w x l) : ∃ A c, x = .slice A l.length c ∧ l.length ≤ c ∧ RowAt w A [] := by
  obtain ⟨xs, h1, h2, h3⟩ := h
  obtain ⟨A, c, rfl, hc, _⟩ := own_sl h2
  exact ⟨A, c, rfl, hc, RowAt.nil _ _⟩
def TR (w : World) (x : Value × Value) (t : Tst) : Prop := StrsV w x.1 t.tags ∧ StrsV w x.2 t.barrier
abbrev TLst := RowL 79 6 tstCells TR
abbrev RLst := RowL 42 4 rulCells RulV
theorem TLst.tsts {n1 : Nat} {w : World} {x : Value} {l : List Tst} (h : TLst n1 w x l) : TstsV w x l := by
  obtain ⟨xs, h1, h2, h3⟩ := h
  exact ⟨xs, own_sl h2, h3.now⟩
theorem RLst.ruls {n1 : Nat} {w : World} {x : Value} {l : List Rul} (h : RLst n1 w x l) : RulsV w x l := by
  obtain ⟨xs, h1, h2, h3⟩ := h
  exact ⟨xs, own_sl h2, h3.now⟩
theorem tstInfo : (Tryz.prog.info? 79).map (fun i => (i.zero, i.size, i.bytes)) = some (some (.agg #[.int .i64 0, .bool false, .bool false, .bool false, .slice none 0 0, .slice none 0 0]), 6, 64) := by kernel_rfl
theorem rulInfo : (Tryz.prog.info? 42).map (fun i => (i.zero, i.size, i.bytes)) = some (some (.agg #[.int .i64 0, .slice none 0 0, .slice none 0 0, .bool false]), 4, 64) := by kernel_rfl
theorem bar_from : ∀ (l : List Bs) (i : Nat), Lib.idxFromS (l.map fun s => (⟨s.toArray⟩ : ByteArray)) ⟨#[124]⟩ i = match barAt l with | some k => ((i + k : Nat) : Int) | none => -1
  | [], i => rfl
  | x :: r, i => by
    have ih := bar_from r (i + 1)
    rw [List.map_cons, Lib.idxFromS]
    unfold barAt
    by_cases h : x = [124]
    · subst h
      rw [if_pos rfl, if_pos (by rfl)]
      rfl
    · rw [if_neg (fun e => h (by have := congrArg (fun b : ByteArray => b.data.toList) e; simpa using this)), if_neg h, ih]
      cases barAt r with
      | none => rfl
      | some k => show ((i + 1 + k : Nat) : Int) = ((i + (k + 1) : Nat) : Int); congr 1; omega
theorem barAt_lib (l : List Bs) : Lib.idxOfS (l.map fun s => (⟨s.toArray⟩ : ByteArray)) ⟨#[124]⟩ = match barAt l with | some k => (k : Int) | none => -1 := by
  unfold Lib.idxOfS
  rw [bar_from]
  cases barAt l <;> simp
theorem barAt_lt : ∀ {l : List Bs} {k : Nat}, barAt l = some k → k < l.length
  | [], k, h => by simp [barAt] at h
  | x :: r, k, h => by
    unfold barAt at h
    split at h
    · simp only [Option.some.injEq] at h; subst h; simp
    · cases hb : barAt r with
      | none => rw [hb] at h; cases h
      | some j =>
        rw [hb] at h
        have := barAt_lt hb
        simp only [Option.map_some, Option.some.injEq] at h
        simp only [List.length_cons]; omega
theorem strs_get {w : World} {b o : Nat} {l : List Bs} (hc : ∀ j u, (l.map S)[j]? = some u → w.cell? ⟨b, o + j, none⟩ = some u) : ∀ j, j < (l.map fun s => (⟨s.toArray⟩ : ByteArray)).length → w.cell? ⟨b, o + j, none⟩ = some (.string ((l.map fun s => (⟨s.toArray⟩ : ByteArray)).getD j ByteArray.empty)) := by
  intro j hj
  rw [List.length_map] at hj
  rw [hc j (S l[j]) (by rw [List.getElem?_map, List.getElem?_eq_getElem hj]; rfl)]
  simp [hj, S]
/-- slices.Index for "|" -/
theorem index_bar (A : Option Addr) (c : Nat) (l : List Bs) (w : World) (hrow : RowAt w A (l.map S)) (hl : l.length ≤ 1000000000) :
    Calls Tryz.prog 64 #[.slice A l.length c, .string ⟨#[124]⟩] w fun e w' => e = .returned (.int .i64 (match barAt l with | some k => (k : Int) | none => -1)) ∧ w = w' := by
  rw [← barAt_lib]
  by_cases h0 : l = []
  · subst h0
    refine (Tryz.slices_Index_string_empty A c ⟨#[124]⟩ w).mono ?_
    rintro e w' ⟨rfl, rfl⟩
    exact ⟨rfl, rfl⟩
  · obtain ⟨b, o, rfl, hlt, hc⟩ := hrow (by simpa using h0)
    refine (Tryz.slices_Index_string b o l.length c (l.map fun s => (⟨s.toArray⟩ : ByteArray)) ⟨#[124]⟩ w (by simp) (by omega) (strs_get hc)).mono ?_
    rintro e w' ⟨rfl, rfl⟩
    exact ⟨by rw [List.take_of_length_le (by simp)], rfl⟩
/-- slices.Clone of strings -/
theorem clone_any (b o c : Nat) (l : List Bs) (w : World) (hc : ∀ j u, (l.map S)[j]? = some u → w.cell? ⟨b, o + j, none⟩ = some u) (hl : l.length ≤ 1000000000) :
    Calls Tryz.prog 63 #[.slice (some ⟨b, o, none⟩) l.length c] w fun e w' => ∃ v, e = .returned v ∧ Own w.heap.size 9 v (l.map S) w' ∧ Below w.heap.size w w' := by
  refine (Tryz.slices_Clone_string b o l.length c (l.map fun s => (⟨s.toArray⟩ : ByteArray)) w (by simp) (by omega) (strs_get hc)).mono ?_
  rintro e w' ⟨v, rfl, h1, _, h2⟩
  refine ⟨v, rfl, ?_, h2⟩
  unfold Own
  rw [List.take_of_length_le (by simp)] at h1
  have e1 : (l.map fun s => (⟨s.toArray⟩ : ByteArray)).map Value.string = l.map S := by rw [List.map_map]; rfl
  rw [e1] at h1
  rw [List.length_map]
  exact h1

/- The examples of chapter 33 in plain Lean. -/
set_option linter.unusedVariables false
set_option maxRecDepth 100000

def textX : Bs := [100, 111, 103, 10, 9, 78, 32, 83, 103, 10, 9, 86, 10, 97, 37, 32, 98, 10, 9, 37, 43, 120, 10]
def linesX : Bs := [83, 69, 76, 69, 67, 84, 32, 78, 32, 83, 103, 32, 40, 45, 49, 32, 68, 101, 116, 41, 32, 40, 33, 49, 42, 67, 32, 86, 32, 124, 32, 78, 41, 10, 82, 69, 77, 79, 86, 69, 33, 32, 86, 10]
def cohsX : List Coh := [⟨[100, 111, 103], [[[78], [83, 103]], [[86]]]⟩, ⟨[97, 32, 98], [[[43, 120]]]⟩]
def rulsX : List Rul := [⟨1, [[78], [83, 103]], [⟨-1, false, false, false, [[68, 101, 116]], []⟩, ⟨1, true, true, true, [[86]], [[78]]⟩], false⟩, ⟨2, [[86]], [], true⟩]
def cohsY : List Coh := [⟨[97], [[[78]]]⟩, ⟨[98], []⟩]
theorem ex_parse : parseL textX = (cohsX, 0, 0) := by decide +kernel
theorem ex_text : cohsText cohsX = (textX, 0) := by decide +kernel
theorem ex_rules : rulesRead atoiA linesX = (rulsX, 0, 0) := by decide +kernel
theorem ex_rtext : rulesText rulsX = (linesX, 0) := by decide +kernel
theorem ex_valid : cohsOk cohsX = true := by decide +kernel
theorem ex_vrule : rulOk ⟨1, [[78], [83, 103]], [⟨-1, false, false, false, [[68, 101, 116]], []⟩, ⟨1, true, true, true, [[86]], [[78]]⟩], false⟩ = true := by decide +kernel
theorem ey_parse : parseL [35, 32, 99, 10, 97, 10, 9, 78, 10, 10, 98] = (cohsY, 0, 0) := by decide +kernel
theorem ey_wrong1 : parseL [9, 78] = ([], 0, 3) := by decide +kernel
theorem ey_wrong2 : parseL [97, 10, 9, 9, 78] = ([], 2, 3) := by decide +kernel
theorem ey_wrong3 : parseL [97, 45, 98] = ([], 0, 3) := by decide +kernel
theorem ey_ref1 : rulesRead atoiA [83, 69, 76, 69, 67, 84] = ([], 0, 3) := by decide +kernel
theorem ey_ref2 : rulesRead atoiA [83, 69, 76, 69, 67, 84, 32, 78, 32, 40, 48, 42, 32, 86, 41] = ([], 0, 3) := by decide +kernel
theorem ey_ref3 : rulesRead atoiA [83, 69, 76, 69, 67, 84, 32, 78, 32, 40, 43, 49, 32, 86, 41] = ([], 0, 3) := by decide +kernel
theorem ey_ref4 : rulesRead atoiA [83, 69, 76, 69, 67, 84, 32, 78, 32, 40, 49, 32, 86, 32, 124, 32, 78, 41] = ([], 0, 3) := by decide +kernel
theorem ey_ref5 : rulesRead atoiA [10, 83, 69, 76, 69, 67, 84, 32, 78, 10, 83, 69, 76, 69, 67, 84, 32, 32, 78] = ([], 10, 3) := by decide +kernel

/- Plain words: the reference's reading of a line of cohorts agrees; the limits. -/
set_option linter.unusedVariables false
set_option maxRecDepth 100000

/-- a line of cohorts as the reference reads it -/
def lineStepR (st : List Coh) (line : Bs) : Option (List Coh) :=
  if line.headD 0 = 9 then
    if st ≠ [] ∧ tagsOk 1 20 (namesR (wordsL line.tail)) = true ∧ quotedL (namesR (wordsL line.tail)) = line.tail ∧ lastReads st < 30 then some (addRead st (namesR (wordsL line.tail))) else none
  else if cohOk ⟨(unquoteL line).getD [], []⟩ = true ∧ st.length < 200 then some (st ++ [⟨(unquoteL line).getD [], []⟩]) else none
theorem cohOk_bare (f : Bs) : cohOk ⟨f, []⟩ = tagOk f := by unfold cohOk; simp
theorem lineStep_eq (st : List Coh) (line : Bs) : lineStep st line = lineStepR st line := by
  unfold lineStep lineStepR
  by_cases h9 : line.headD 0 = 9
  · rw [if_pos h9, if_pos h9]
    cases hu : unqAll (wordsL line.tail) with
    | none =>
      rw [if_neg]
      rintro ⟨_, h, _⟩
      have := tagsOk_mem h _ (unqAll_none hu)
      rw [tagOk_nil] at this; cases this
    | some ts =>
      rw [unqAll_names hu]
      have hq := quoted_words hu
      by_cases hc : tagsOk 1 20 ts = true ∧ st ≠ [] ∧ lastReads st < 30
      · simp only []; rw [if_pos hc, if_pos ⟨hc.2.1, hc.1, hq, hc.2.2⟩]
      · simp only []; rw [if_neg hc, if_neg (fun e => hc ⟨e.2.1, e.1, e.2.2.2⟩)]
  · rw [if_neg h9, if_neg h9]
    rw [cohOk_bare]
    cases hu : unquoteL line with
    | none =>
      simp only [Option.getD_none]
      rw [if_neg]
      rintro ⟨h, _⟩
      rw [tagOk_nil] at h; cases h
    | some f => rfl
/-- limits -/
def limC (n : Nat) : List Coh := List.replicate n ⟨[97], []⟩
def limR (k : Nat) : List Coh := [⟨[97], List.replicate k [[78]]⟩]
def limT (k : Nat) : Bs := [97, 10] ++ (List.replicate k [9, 78, 10]).flatten
def limU (r : Nat) : Bs := (List.replicate r [83, 69, 76, 69, 67, 84, 32, 78, 10]).flatten
def limX (r : Nat) : List Rul := List.replicate r ⟨1, [[78]], [], false⟩
theorem lim_cohs : ∀ n < 206, 195 ≤ n → (decide ((cohsText (limC n)).2 = 0) = decide (n ≤ 200)) ∧ (decide ((cohsText (limC n)).1.length = 2 * n) = decide (n ≤ 200)) ∧ cohsOk (limC n) = decide (n ≤ 200) ∧ (cohsText (limC n)).1.length ≤ 1000 := by decide +kernel
theorem lim_reads : ∀ k < 33, 28 ≤ k → (decide ((cohsText (limR k)).2 = 0) = decide (k ≤ 30)) ∧ (decide ((parseL (limT k)).2.2 = 0) = decide (k ≤ 30)) ∧ (decide ((parseL (limT k)).2.1 = 92) = decide (30 < k)) := by decide +kernel
theorem lim_rules : ∀ r < 103, 98 ≤ r → (decide ((rulesRead atoiA (limU r)).2.2 = 0) = decide (r ≤ 100)) ∧ (decide ((rulesRead atoiA (limU r)).2.1 = 900) = decide (100 < r)) ∧ (decide ((rulesText (limX r)).2 = 0) = decide (r ≤ 100)) := by decide +kernel

/- Walks: SameReading, SameCohort, Same of the reference of layer 33. -/
open Go.RowKit
set_option linter.unusedVariables false

set_option maxHeartbeats 1000000 in
set_option maxRecDepth 100000 in
theorem sreading_any (x y : Value) (l m : List Bs) (w : World) (hx : StrsV w x l) (hy : StrsV w y m) (hl : l.length ≤ 1000000) (hm : m.length ≤ 1000000) :
    Calls Tryz.prog 77 #[.agg #[x], .agg #[y]] w fun e w' => e = .returned (.bool (decide (l = m))) ∧ Below w.heap.size w w' := by
  obtain ⟨A, c, rfl, hc, hA⟩ := hx
  obtain ⟨B, d, rfl, hd, hB⟩ := hy
  have b1 : Below w.heap.size w ((w.alloc (.cells #[.slice A l.length c] 50)).alloc (.cells #[.slice B m.length d] 50)) := ((Below.refl _ _).alloc (Nat.le_refl _) _).alloc (by simp) _
  have p1 := same_any A B c d l m _ (hA.below b1) (hB.below b1) (by omega) (by omega)
  generalize decide (l = m) = q at *
  clear hA hB hc hd
  go_enter Tryz.func77, Tryz.ntmps77
  go_wp2_with fail
  refine p1.mono ?_
  rintro e w1 ⟨rfl, b2⟩
  go_wp2_with fail
  go_returns
  exact ⟨rfl, bstep b1 b2⟩
theorem ba_ext {a b : ByteArray} (h : a.data.toList = b.data.toList) : a = b := by
  cases a; cases b
  simp only [ByteArray.mk.injEq]
  exact Array.toList_inj.1 h
theorem ba_ne {a b : ByteArray} (h : a ≠ b) : (a.toList == b.toList) = false := by
  rw [Lib.toList_data, Lib.toList_data]
  simp only [beq_eq_false_iff_ne]
  exact fun e => h (ba_ext e)
theorem RowAt.take {w : World} {A : Option Addr} {cs : List Value} (h : RowAt w A cs) (k : Nat) : RowAt w A (cs.take k) := fun hne => by
  obtain ⟨b, o, rfl, hlt, hcell⟩ := h (fun e => hne (by rw [e]; simp))
  refine ⟨b, o, rfl, hlt, fun j u hu => hcell j u ?_⟩
  rw [List.getElem?_take] at hu
  split at hu
  · exact hu
  · cases hu
theorem heap_setCell_row {w : World} {b k : Nat} {A : Array Value} {t : TypeId} {u : Value} (h : w.heap[b]? = some (.cells A t (0, 0))) : (w.setCell ⟨b, k, none⟩ u).heap[b]? = some (.cells (A.setIfInBounds k u) t (0, 0)) := by
  have hlt := lt_of_block h
  have h' : w.heap[b] = .cells A t (0, 0) := by simpa [Array.getElem?_eq_getElem hlt] using h
  show (w.heap.modify b _)[b]? = _
  rw [Array.getElem?_eq_getElem (by simpa using hlt), Array.getElem_modify_self, h']
  rfl
theorem take_both {α : Type} {l m : List α} {k : Nat} (h1 : k < l.length) (h2 : k < m.length) (H : l.take k = m.take k) : (l[k] = m[k] → l.take (k + 1) = m.take (k + 1)) ∧ (¬ l[k] = m[k] → l ≠ m) := by
  refine ⟨fun e => ?_, fun h e => h (by subst e; rfl)⟩
  rw [List.take_succ_eq_append_getElem h1, List.take_succ_eq_append_getElem h2, H, e]
def SizedC (c : Coh) : Prop := c.reads.length ≤ 1000000 ∧ ∀ r ∈ c.reads, r.length ≤ 1000000
set_option maxHeartbeats 4000000 in
set_option maxRecDepth 100000 in
theorem scohort_any (F G : ByteArray) (rs ss : List (List Bs)) (x y : Value) (w : World) (hx : ReadsV w x rs) (hy : ReadsV w y ss) (h1 : rs.length ≤ 1000000) (h2 : ss.length ≤ 1000000) (h3 : ∀ r ∈ rs, r.length ≤ 1000000) (h4 : ∀ r ∈ ss, r.length ≤ 1000000) :
    Calls Tryz.prog 38 #[.agg #[.string F, x], .agg #[.string G, y]] w fun e w' => e = .returned (.bool (decide (F = G ∧ rs = ss))) ∧ Below w.heap.size w w' := by
  obtain ⟨A, c, rfl⟩ := hx.form
  obtain ⟨B, d, rfl⟩ := hy.form
  obtain ⟨q, hq⟩ : ∃ q, decide (F = G ∧ rs = ss) = q := ⟨_, rfl⟩
  rw [hq]
  have HQ := Lib.hid hq
  clear hq
  have HX := Lib.hid hx
  have HY := Lib.hid hy
  clear hx hy
  by_cases hF : F = G
  · subst hF
    have hb : (F.toList == F.toList) = true := by simp
    by_cases hn : rs.length = ss.length
    · have hn' : ((rs.length : Int) != (ss.length : Int)) = false := by simp; omega
      have HN := Lib.hid hn
      have hm1 : rs.length ≤ ss.length := by omega
      have hm2 : ss.length ≤ rs.length := by omega
      clear hn
      go_enter Tryz.func38, Tryz.ntmps38
      go_wp2_with fail
      obtain ⟨W0, hW0⟩ : ∃ W0, W0 = (w.alloc (.cells #[.string F, .slice A rs.length c] 29)).alloc (.cells #[.string F, .slice B ss.length d] 29) := ⟨_, rfl⟩
      rw [← hW0]
      have b0 : Below w.heap.size w W0 := by rw [hW0]; exact ((Below.refl _ _).alloc (Nat.le_refl _) _).alloc (by simp) _
      have hz0 : W0.heap.size = w.heap.size + 2 := by rw [hW0]; simp
      have hr1 : W0.heap[w.heap.size]? = some (.cells #[.string F, .slice A rs.length c] 29 (0, 0)) := by
        rw [hW0]
        exact (((Below.refl _ _).alloc (Nat.le_refl _) _).block w.heap.size (by simp)).trans (heap_alloc_new w _)
      have hr2 : W0.heap[w.heap.size + 1]? = some (.cells #[.string F, .slice B ss.length d] 29 (0, 0)) := by
        rw [hW0]
        have := heap_alloc_new (w.alloc (.cells #[.string F, .slice A rs.length c] 29)) (.cells #[.string F, .slice B ss.length d] 29)
        simpa using this
      have R1 := Lib.hid hr1
      have R2 := Lib.hid hr2
      have hs0 : w.heap.size + 1 < W0.heap.size := by omega
      clear hW0 hz0 hr1 hr2
      go_loopw [5] (fun i wr => ∃ (k : Nat), i = .int .i64 k ∧ k ≤ rs.length ∧ Below W0.heap.size W0 wr ∧ Hid (rs.take k = ss.take k)) (fun i _ => rs.length - (intOf i).toNat)
      case atStart => exact ⟨0, rfl, by omega, Below.refl _ _, by simp [Hid]⟩
      case round =>
        obtain ⟨k, rfl, hk, hB, H⟩ := hrel
        have c1 := cell_of_row wr w.heap.size 1 _ _ (0, 0) ((hB.block _ (by omega)).trans R1.out)
        have c2 := cell_of_row wr (w.heap.size + 1) 1 _ _ (0, 0) ((hB.block _ (by omega)).trans R2.out)
        simp at c1 c2
        by_cases hlt : k < rs.length
        · have hlt2 : k < ss.length := by omega
          obtain ⟨b, o, x, rfl, hbl, hc1, hx⟩ := HX.out.at hlt
          obtain ⟨b', o', y, rfl, hbl', hc2, hy⟩ := HY.out.at hlt2
          have bw := bstep b0 hB
          have k1 := (bw.cell (p := ⟨b, o + k, none⟩) hbl).trans hc1
          have k2 := (bw.cell (p := ⟨b', o' + k, none⟩) hbl').trans hc2
          have k0 : (0 : Int) ≤ (k : Int) := by omega
          have kl : (k : Int) < (rs.length : Int) := by omega
          have kl2 : (k : Int) < (ss.length : Int) := by omega
          have p1 := fun (Wx : World) (bx : Below wr.heap.size wr Wx) => sreading_any x y rs[k] ss[k] Wx (hx.below (bstep bw bx)) (hy.below (bstep bw bx)) (h3 _ (List.getElem_mem _)) (h4 _ (List.getElem_mem _))
          have HT := Lib.hid (take_both hlt hlt2 H.out)
          clear hc1 hc2 hx hy
          generalize rs[k] = u at *
          generalize ss[k] = v at *
          cases hd : decide (u = v) with
          | true =>
            have HT2 := Lib.hid (HT.out.1 (by simpa using hd))
            rw [hd] at p1
            clear hd HT
            go_wp2_with fail
            go_still_tail 10, (by kernel_rfl)
            change wpList _ _ _ _ _ wr.drew
            go_wp2_with fail
            refine (p1 _ ((Below.refl _ _).drew)).mono ?_
            rintro e W3 ⟨rfl, b3⟩
            have b4 := bstep ((Below.refl _ wr).drew) b3
            go_wp2_with fail
            go_roundw
            case rel => exact ⟨k + 1, by go_num, by omega, bstep hB b4, HT2.out⟩
            case measure => simp [intOf]; omega
          | false =>
            have HT2 := Lib.hid (HT.out.2 (by simpa using hd))
            have HX2 : Hid (q = false) := by rw [Hid, ← HQ.out, decide_eq_false_iff_not]; exact fun e => HT2.out e.2
            rw [hd] at p1
            clear hd HT
            go_wp2_with fail
            go_still_tail 10, (by kernel_rfl)
            change wpList _ _ _ _ _ wr.drew
            go_wp2_with fail
            refine (p1 _ ((Below.refl _ _).drew)).mono ?_
            rintro e W3 ⟨rfl, b3⟩
            have b4 := bstep ((Below.refl _ wr).drew) b3
            go_wp2_with fail
            go_returns
            exact ⟨by rw [HX2.out]; (try rfl), bstep b0 (bstep hB b4)⟩
        · obtain rfl : k = rs.length := by omega
          have HX2 : Hid (q = true) := by
            have h1 := H.out
            rw [List.take_length, HN.out, List.take_length] at h1
            rw [Hid, ← HQ.out, h1]; simp
          go_wp2_with fail
          go_returns
          exact ⟨by rw [HX2.out]; (try rfl), bstep b0 hB⟩
    · have hn' : ((rs.length : Int) != (ss.length : Int)) = true := by simp; omega
      have HX2 : Hid (q = false) := by
        rw [Hid, ← HQ.out, decide_eq_false_iff_not]; rintro ⟨_, e⟩; exact hn (by rw [e])
      clear hn
      go_enter Tryz.func38, Tryz.ntmps38
      go_wp2_with fail
      go_returns
      exact ⟨by rw [HX2.out]; (try rfl), ((Below.refl _ _).alloc (Nat.le_refl _) _).alloc (by simp) _⟩
  · have hb : (F.toList == G.toList) = false := ba_ne hF
    have HX2 : Hid (q = false) := by
      rw [Hid, ← HQ.out, decide_eq_false_iff_not]; rintro ⟨e, _⟩; exact hF e
    clear hF
    go_enter Tryz.func38, Tryz.ntmps38
    go_wp2_with fail
    go_returns
    exact ⟨by rw [HX2.out]; (try rfl), ((Below.refl _ _).alloc (Nat.le_refl _) _).alloc (by simp) _⟩
set_option maxHeartbeats 4000000 in
set_option maxRecDepth 100000 in
theorem rsame_any (A B : Option Addr) (c d : Nat) (l m : List Coh) (w : World) (hA : CohsV w (.slice A l.length c) l) (hB : CohsV w (.slice B m.length d) m) (hl : Sized l) (hm : Sized m) :
    Calls Tryz.prog 11 #[.slice A l.length c, .slice B m.length d] w fun e w' => e = .returned (.bool (decide (l = m))) ∧ Below w.heap.size w w' := by
  obtain ⟨q, hq⟩ : ∃ q, decide (l = m) = q := ⟨_, rfl⟩
  rw [hq]
  have HQ := Lib.hid hq
  clear hq
  have HX := Lib.hid hA
  have HY := Lib.hid hB
  clear hA hB
  obtain ⟨hl1, hl2⟩ := hl
  obtain ⟨hq1, hq2⟩ := hm
  by_cases hn : l.length = m.length
  · have hn' : ((l.length : Int) != (m.length : Int)) = false := by simp; omega
    have HN := Lib.hid hn
    have hm1 : l.length ≤ m.length := by omega
    have hm2 : m.length ≤ l.length := by omega
    clear hn
    go_enter Tryz.func11, Tryz.ntmps11
    go_wp2_with fail
    go_loopw [5] (fun i wr => ∃ (k : Nat), i = .int .i64 k ∧ k ≤ l.length ∧ Below w.heap.size w wr ∧ Hid (l.take k = m.take k)) (fun i _ => l.length - (intOf i).toNat)
    case atStart => exact ⟨0, rfl, by omega, Below.refl _ _, by simp [Hid]⟩
    case round =>
      obtain ⟨k, rfl, hk, hB, H⟩ := hrel
      by_cases hlt : k < l.length
      · have hlt2 : k < m.length := by omega
        obtain ⟨b, o, x, rfl, hbl, hc1, hd1, hx⟩ := HX.out.at hlt
        obtain ⟨b', o', y, rfl, hbl', hc2, hd2, hy⟩ := HY.out.at hlt2
        obtain ⟨hz1, hz2⟩ := hl2 l[k] (List.getElem_mem _)
        obtain ⟨hz3, hz4⟩ := hq2 m[k] (List.getElem_mem _)
        have HT := Lib.hid (take_both hlt hlt2 H.out)
        generalize l[k] = u at *
        generalize m[k] = v at *
        obtain ⟨F, hF⟩ : ∃ F : ByteArray, (⟨u.form.toArray⟩ : ByteArray) = F := ⟨_, rfl⟩
        obtain ⟨G, hG⟩ : ∃ F : ByteArray, (⟨v.form.toArray⟩ : ByteArray) = F := ⟨_, rfl⟩
        have k1 : wr.cell? ⟨b, o + k * 2, none⟩ = some (.string F) := (hB.cell (p := ⟨b, o + k * 2, none⟩) hbl).trans (by rw [hc1, S, hF])
        have k2 : wr.cell? ⟨b, o + k * 2 + 1, none⟩ = some x := (hB.cell (p := ⟨b, o + k * 2 + 1, none⟩) hbl).trans hd1
        have k3 : wr.cell? ⟨b', o' + k * 2, none⟩ = some (.string G) := (hB.cell (p := ⟨b', o' + k * 2, none⟩) hbl').trans (by rw [hc2, S, hG])
        have k4 : wr.cell? ⟨b', o' + k * 2 + 1, none⟩ = some y := (hB.cell (p := ⟨b', o' + k * 2 + 1, none⟩) hbl').trans hd2
        have k0 : (0 : Int) ≤ (k : Int) := by omega
        have kl : (k : Int) < (l.length : Int) := by omega
        have kl2 : (k : Int) < (m.length : Int) := by omega
        have p1 := fun (Wx : World) (bx : Below wr.heap.size wr Wx) => scohort_any F G u.reads v.reads x y Wx (hx.below (bstep hB bx)) (hy.below (bstep hB bx)) hz1 hz3 hz2 hz4
        have hE : decide (F = G ∧ u.reads = v.reads) = decide (u = v) := by
          obtain ⟨uf, ur⟩ := u
          obtain ⟨vf, vr⟩ := v
          subst hF
          subst hG
          simp
        rw [hE] at p1
        clear hc1 hd1 hc2 hd2 hx hy hF hG hE hz2 hz4
        cases hd : decide (u = v) with
        | true =>
          have HT2 := Lib.hid (HT.out.1 (by simpa using hd))
          rw [hd] at p1
          clear hd HT
          go_wp2_with fail
          go_still_tail 8, (by kernel_rfl)
          change wpList _ _ _ _ _ wr.drew
          go_wp2_with fail
          refine (p1 _ ((Below.refl _ _).drew)).mono ?_
          rintro e W3 ⟨rfl, b3⟩
          have b4 := bstep ((Below.refl _ wr).drew) b3
          go_wp2_with fail
          go_roundw
          case rel => exact ⟨k + 1, by go_num, by omega, bstep hB b4, HT2.out⟩
          case measure => simp [intOf]; omega
        | false =>
          have HT2 := Lib.hid (HT.out.2 (by simpa using hd))
          have HX2 : Hid (q = false) := by rw [Hid, ← HQ.out, decide_eq_false_iff_not]; exact fun e => HT2.out e
          rw [hd] at p1
          clear hd HT
          go_wp2_with fail
          go_still_tail 8, (by kernel_rfl)
          change wpList _ _ _ _ _ wr.drew
          go_wp2_with fail
          refine (p1 _ ((Below.refl _ _).drew)).mono ?_
          rintro e W3 ⟨rfl, b3⟩
          have b4 := bstep ((Below.refl _ wr).drew) b3
          go_wp2_with fail
          go_returns
          exact ⟨by rw [HX2.out]; (try rfl), bstep hB b4⟩
      · obtain rfl : k = l.length := by omega
        have HX2 : Hid (q = true) := by
          have h1 := H.out
          rw [List.take_length, HN.out, List.take_length] at h1
          rw [Hid, ← HQ.out, h1]; simp
        go_wp2_with fail
        go_returns
        exact ⟨by rw [HX2.out]; (try rfl), hB⟩
  · have hn' : ((l.length : Int) != (m.length : Int)) = true := by simp; omega
    have HX2 : Hid (q = false) := by
      rw [Hid, ← HQ.out, decide_eq_false_iff_not]; exact fun e => hn (by rw [e])
    clear hn
    go_enter Tryz.func11, Tryz.ntmps11
    go_wp2_with fail
    go_returns
    exact ⟨by rw [HX2.out]; (try rfl), Below.refl _ _⟩

/- Walks of layer 33: the function that Rules calls for each line: small lemmas. -/
open Go.RowKit
set_option linter.unusedVariables false

theorem opens_drop : ∀ {g : List Bs}, ¬ idxB opens g < 0 → ∃ w r, g.drop (opensAt g) = w :: r ∧ opens w = true
  | [], h => absurd (by simp [idxB]) h
  | x :: r, h => by
    unfold opensAt
    by_cases ho : opens x = true
    · rw [if_pos ho]; exact ⟨x, r, rfl, ho⟩
    · rw [if_neg ho]
      refine opens_drop (g := r) fun hn => h ?_
      unfold idxB
      rw [if_neg ho]
      simp [hn]
theorem testsRead_some {atoi : Bs → Option Int} {m : Nat} {w : Bs} {r : List Bs} {t : Tst} (h : testRead atoi (w :: r.take (opensAt r)) = some t) : testsRead atoi (m + 1) (w :: r) = (testsRead atoi m (r.drop (opensAt r))).map (t :: ·) := by
  rw [testsRead, h]
  cases testsRead atoi m (r.drop (opensAt r)) <;> rfl
theorem testsRead_none {atoi : Bs → Option Int} {m : Nat} {w : Bs} {r : List Bs} (h : testRead atoi (w :: r.take (opensAt r)) = none) : testsRead atoi m (w :: r) = none := by
  cases m with
  | zero => rfl
  | succ m => rw [testsRead, h]
theorem last_take : ∀ (r : List Bs) (w : Bs) (k : Nat) (x : Bs), (w :: r)[k]? = some x → (w :: r.take k).getLastD [] = x
  | r, w, 0, y, h => by simpa using h
  | x :: r, w, k + 1, y, h => by
    have := last_take r x k y (by simpa using h)
    rw [List.take_succ_cons]
    simpa using this
  | [], w, k + 1, y, h => by simp at h
theorem testRead_eq (atoi : Bs → Option Int) (w : Bs) (r : List Bs) {k : Nat} {x : Bs} (hk : k ≤ r.length) (hx : (w :: r)[k]? = some x) : testRead atoi (w :: r.take k) = if (cutEnd x 41).2 = true ∧ 0 < k then
    (match hdrRead atoi w.tail with | some t => namesRead t (r.take (k - 1) ++ [(cutEnd x 41).1]) | none => none) else none := by
  unfold testRead
  rw [last_take r w k x hx]
  have e1 : (1 < (w :: r.take k).length) = (0 < k) := by simp only [List.length_cons, List.length_take, eq_iff_iff]; omega
  have e2 : (w :: r.take k).tail.dropLast = r.take (k - 1) := by
    rw [List.tail_cons, List.dropLast_eq_take, List.length_take, List.take_take, Nat.min_eq_left hk, Nat.min_eq_left (by omega)]
  simp only [e1, e2]
  rfl
theorem RowL.firm {α : Type} {T : TypeId} {size : Nat} {cells : List α → List (Value × Value) → List Value} {R : World → Value × Value → α → Prop} {n1 : Nat} {w : World} {x : Value} {l : List α} {X : Nat → Prop}
    (h : RowL T size cells R n1 w x l) (hX : ∀ b, b < w.heap.size → X b → b < n1) : Firm X w (fun w => ∃ xs, Sl w x l.length (cells l xs) ∧ AllP (R w) xs l) := by
  obtain ⟨xs, h1, h2, h3⟩ := h
  exact ((own_firm (X := X) h2 fun g hg e => by
    have := h2.lt g hg
    have := hX g this.2 e
    omega).and (h3.sub fun b hb e => Or.inl (hX b hb e))).mono fun w h => ⟨xs, h.1, h.2⟩
/-- what the function that Rules calls does with a line -/
def Par2 (base : Nat) (l : List Rul) (L : Bs) (W : World) (e : Ending) (W' : World) : Prop :=
  Chg (fun b => b = base ∨ base + 7 ≤ b) W W' ∧ ((∃ l', ruleStep atoiA l L = some l' ∧ e = .returned (.tuple #[]) ∧ ∃ v', W'.heap[base]? = some (.cells #[v'] 37 (0, 0)) ∧ RLst (base + 7) W' v' l') ∨ (ruleStep atoiA l L = none ∧ e = wrongP ∧ ∃ v', W'.heap[base]? = some (.cells #[v'] 37 (0, 0)) ∧ RLst (base + 7) W' v' l))
theorem Par2.no {base : Nat} {l : List Rul} {L : Bs} {W W' : World} {v : Value} (hv : W.heap[base]? = some (.cells #[v] 37 (0, 0))) (hl : RLst (base + 7) W v l) (h : ruleStep atoiA l L = none) (hb : Below W.heap.size W W') : Par2 base l L W wrongP W' :=
  ⟨Chg.of_new hb, Or.inr ⟨h, rfl, v, (hb.block base (lt_of_block hv)).trans hv, hl.chg (Chg.of_new (X := fun _ => False) hb) fun _ _ e => e.elim⟩⟩
end Go.Proofs.YtplipnchkkhdaaaGreatDoor
