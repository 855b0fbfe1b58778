/- A region that draws its order, whose head's operations are quiet in a class of worlds, and whose tail comes up in one order: the class law of Derived/Deep/Quiet.lean beside the head and tail of Derived/StillTail.lean. -/
import Derived.Test.YtplipnchkkhdaaaGreatDoorZ03
import Derived.StillTail
import Derived.Deep.QuietTactic
import Derived.Test.YtplipnchkkhdaaaGreatDoorZ05
import Derived.Lib.AppendIntMem
namespace Go.Proofs.YtplipnchkkhdaaaGreatDoor
open Go
section
variable {P : Program} {ops : Array Oper} {md : Region.Mode} {C : World → Prop}
/-- The head: whichever operation may come up is one of the first n, and quiet in C; behind f of them, L. -/
def HeadQ (P : Program) (md : Region.Mode) (ops : Array Oper) (C : World → Prop) (n : Nat) (L : Array Bool → Act → Prop) : Nat → Array Bool → Act → Prop
  | 0, s, a => L s a
  | f + 1, s, a => Region.ready md ops s ≠ [] ∧ ∀ i ∈ Region.ready md ops s, i < n ∧ qOp P ops C i (HeadQ P md ops C n L f (s.setIfInBounds i true)) a
theorem HeadQ.any {n g : Nat} {L : Array Bool → Act → Prop} {R : Exit → Act → World → Prop} (hL : ∀ s a w, C w → L s a → wpAny P md ops R g s a w) :
    ∀ (f : Nat) (s : Array Bool) (a : Act) (w : World), C w → HeadQ P md ops C n L f s a → wpAny P md ops R (f + g) s a w
  | 0, s, a, w, hw, h => by rw [Nat.zero_add]; exact hL _ _ _ hw h
  | f + 1, s, a, w, hw, h => by
    rw [Nat.add_right_comm]
    exact ⟨fun e => absurd e h.1, fun i hi => wpOp_of_qOp hw (fun a' w' hw' k => HeadQ.any hL f _ a' w' hw' k) (h.2 i hi).2⟩
theorem HeadQ.first {n i : Nat} {o : Oper} {v : Value} {L : Array Bool → Act → Prop} (ho : ops[i]? = some o) (hns : Region.noSelect ops = true)
    (hs : Region.sinkB md ops n = true) (hc : Region.chainB md ops n = true) (hn : n < ops.size) (hin : i < n) (hL : ∀ s a, L s a → ∀ j ∈ Region.ready md ops s, n ≤ j) :
    ∀ (f : Nat) (s : Array Bool) (a : Act), HeadInv md ops n s →
      (∀ j p, ops[j]? = some p → j ≠ i → s.getD j true = false → (∀ e ∈ p.after, Region.binds md e = true → e.on ≠ i) → o.apart ops p = true) →
      i ∈ Region.ready md ops s → YieldsIn P ops C o v a → HeadQ P md ops C n L f (s.setIfInBounds i true) (a.put o.dst v) → HeadQ P md ops C n L (f + 1) s a := by
  have hsel := Region.noSelect_spec hns
  intro f
  induction f with
  | zero =>
    intro s a inv _ hr hy H
    refine ⟨List.ne_nil_of_mem hr, fun j hj => ?_⟩
    have hjn : j < n := Nat.lt_of_not_le fun h => tail_waits hs hc hn inv _ i rfl hin (mem_ready.1 hr).1 j h hj
    by_cases e : j = i
    · subst e; exact ⟨hjn, hy.qOp ho H⟩
    · exact absurd (hL _ _ H j (ready_mono hj e)) (by omega)
  | succ f ih =>
    intro s a inv hf hr hy H
    refine ⟨List.ne_nil_of_mem hr, fun j hj => ?_⟩
    have hjn : j < n := Nat.lt_of_not_le fun h => tail_waits hs hc hn inv _ i rfl hin (mem_ready.1 hr).1 j h hj
    refine ⟨hjn, ?_⟩
    by_cases e : j = i
    · subst e; exact hy.qOp ho H
    · obtain ⟨hu, p, hp, hall⟩ := mem_ready.1 hj
      have hno : ∀ x ∈ p.after, Region.binds md x = true → x.on ≠ i := by
        intro x hx hb heq
        have k := hall x hx hb
        rw [heq, getD_both (mem_ready.1 hr).1] at k
        cases k
      refine qOp_mono (fun a' k => ih _ a' (inv.set hj hjn) (fun m q hq hm hu' hno' => hf m q hq hm ?_ hno') (ready_mono hr (Ne.symm e)) k.1 ?_)
        (qOp_put hp (hf j p hp e hu hno) (fun cs b => hsel i o cs b ho) (fun cs b => hsel j p cs b hp) hy (H.2 j (ready_mono hj e)).2)
      · by_cases hjm : j = m
        · subst hjm; exact hu
        · rwa [getD_set_ne true hjm] at hu'
      · rw [Array.setIfInBounds_comm _ _ e]; exact k.2
theorem HeadQ.lex {n g : Nat} {K : Act → Prop} (hns : Region.noSelect ops = true) (hs : Region.sinkB md ops n = true) (hc : Region.chainB md ops n = true) (hn : n < ops.size) :
    ∀ (l : List Oper) (k : Nat) (s : Array Bool) (a : Act), (∀ j, j < l.length → l[j]? = ops[k + j]?) → k + l.length = n → HeadInv md ops n s → Region.lexHead md ops g l.length k s = true →
    wpQuiet P ops C K l a → HeadQ P md ops C n (fun s' a' => Region.seqB md ops g n s' = true ∧ K a') l.length s a
  | [], k, s, a, _, hk, _, hB, h => by
    obtain rfl : k = n := by simpa using hk
    exact ⟨by simpa [Region.lexHead] using hB, h⟩
  | o :: l, k, s, a, hl, hk, inv, hB, h => by
    have h0 : ops[k]? = some o := by simpa using (hl 0 (by simp)).symm
    simp only [List.length_cons, Region.lexHead, Bool.and_eq_true] at hB
    simp only [List.length_cons] at hk
    have hr : k ∈ Region.ready md ops s := by simpa using hB.1.1
    obtain ⟨v, hy, hK⟩ := yieldsIn_of_qOp (C := C) (K := wpQuiet P ops C K l) h0 (by unfold qOp; simp only [h0]; exact h)
    exact HeadQ.first h0 hns hs hc hn (by omega) (fun s' a' hL => seqB_ready hL.1) l.length s a inv (Region.free_spec h0 hB.1.2) hr hy
      (HeadQ.lex hns hs hc hn l (k + 1) _ _ (fun j hj => by have := hl (j + 1) (by simp; omega); simpa [Nat.add_assoc, Nat.add_comm 1 j] using this) (by omega) (inv.set hr (by omega)) hB.2 hK)
/-- The region's law: the first n operations quiet in C, in the text's order; then the rest, in whatever world of C. -/
theorem wp_region_class {id : Nat} {Q : Exit → Act → World → Prop} {a : Act} {w : World} {l : List Oper} (n : Nat) (C : World → Prop) (hm : P.follows .mixedOrders = true) (hB : Region.lexTailB .any l.toArray n = true) (hC : C w.drew)
    (h : wpQuiet P l.toArray C (fun a' => ∀ w', C w' → wpList P l.toArray Q (l.drop n) a' w') (l.take n) a) : (Code.region id l.toArray true).wp P Q a w := by
  simp only [Region.lexTailB, Bool.and_eq_true, decide_eq_true_eq] at hB
  obtain ⟨⟨⟨⟨hns, hn⟩, hs⟩, hc⟩, hlex⟩ := hB
  have hn' : n < l.length := by simpa using hn
  have htl : (l.take n).length = n := by simp; omega
  have inv0 : HeadInv .any l.toArray n (Array.replicate l.toArray.size false) :=
    ⟨by simp, fun j oj _ hl => (by rw [getD_replicate_false] at hl; cases hl), fun t _ ht => getD_in (by simpa using ht) (getD_replicate_false _ _)⟩
  have H := HeadQ.lex (C := C) (md := .any) (g := l.toArray.size - n) hns hs hc hn (l.take n) 0 _ a (fun j hj => by rw [htl] at hj; simp [hj]) (by simpa using htl) inv0 (by rw [htl]; exact hlex) h
  refine wp_region_any hm ?_
  have hdl : (l.drop n).length = l.toArray.size - n := by simp
  have G := HeadQ.any (R := Q) (g := l.toArray.size - n) (fun s a' w' hw' hL => by
    have := wpAny_of_seq (md := .any) (Q' := Q) (l.drop n) n s a' w' (fun j => by simp [List.getElem?_drop]) (by rw [hdl]; exact hL.1) (hL.2 w' hw')
    rwa [hdl] at this) _ _ _ _ hC H
  rw [htl, show n + (l.toArray.size - n) = l.toArray.size by omega] at G
  exact G
end

/- Walks of layer 33: the line of a rule. -/
open Go.RowKit
set_option linter.unusedVariables false

/-- the worlds behind W in which only memory was made -/
structure Bey (W : World) where
  w : World
  h : Below W.heap.size W w
theorem Bey.ne (W : World) : Nonempty (Bey W) := ⟨⟨W, Below.refl _ _⟩⟩
theorem itoa_numL {n : Int} (h : -99 ≤ n ∧ n ≤ 99) : Lib.itoa n = numL n := by
  have p : ∀ k : Nat, k < 100 → Lib.itoa (k : Int) = numL (k : Int) ∧ Lib.itoa (-(k : Int)) = numL (-(k : Int)) := by decide +kernel
  obtain ⟨p1, p2⟩ := p n.natAbs (by omega)
  rcases Int.le_total 0 n with h0 | h0
  · rwa [show (n.natAbs : Int) = n by omega] at p1
  · rwa [show (-(n.natAbs : Int)) = n by omega] at p2
theorem numL_len (n : Int) : (numL n).length ≤ 3 := by
  have : ∀ k, (decL k).length ≤ 2 := fun k => by unfold decL; split <;> simp
  unfold numL
  split
  · have := this n.natAbs; simp only [List.length_cons]; omega
  · have := this n.natAbs; omega
theorem optL_len (b : Bool) (l : Bs) : (optL b l).length ≤ l.length := by cases b <;> simp [optL]
theorem Bey.sign {W : World} (b : Bool) (s : ByteArray) {U : ByteArray} (hU : (⟨(optL b s.data.toList).toArray⟩ : ByteArray) = U) (z : Bey W) :
    Calls Tryz.prog 89 #[.bool b, .string s] z.w fun e w' => e = .returned (.string U) ∧ ∃ z' : Bey W, w' = z'.w := by
  refine (sign_any b s z.w).mono ?_
  rintro e w' ⟨rfl, rfl⟩
  exact ⟨by rw [hU], z, rfl⟩
theorem Bey.quote {W : World} (A : Option Addr) (c : Nat) (l : List Bs) (hT : Tabs W) (hrow : RowAt W A (l.map S)) (hF : Few l) {U : ByteArray} (hU : (⟨(quotedL l).toArray⟩ : ByteArray) = U) (z : Bey W) :
    Calls Tryz.prog 44 #[.slice A l.length c] z.w fun e w' => e = .returned (.string U) ∧ ∃ z' : Bey W, w' = z'.w := by
  refine (quotes_any A c l z.w (hT.below z.h) (hrow.below z.h) hF).mono ?_
  rintro e w' ⟨rfl, b⟩
  exact ⟨by rw [hU], ⟨w', bstep z.h b⟩, rfl⟩
theorem Bey.itoa {W : World} (n : Int) (hn : -99 ≤ n ∧ n ≤ 99) (hT : TabH W) {U : ByteArray} (hU : (⟨(numL n).toArray⟩ : ByteArray) = U) (z : Bey W) :
    Calls Tryz.prog 90 #[.int .i64 n] z.w fun e w' => e = .returned (.string U) ∧ ∃ z' : Bey W, w' = z'.w := by
  refine (Tryz.strconv_Itoa n (by omega) (by omega) z.w (hT.below z.h).p10).mono ?_
  rintro e w' ⟨rfl, k, os, rfl⟩
  exact ⟨by rw [itoa_numL hn, hU], ⟨_, bstep z.h (Lib.below_grow _ _ (Nat.le_refl _) _ _)⟩, rfl⟩
theorem Bey.cell {W : World} {p : Addr} {v : Value} (h : W.cell? p = some v) (hp : p.block < W.heap.size) (z : Bey W) : z.w.cell? p = some v := (z.h.cell hp).trans h
theorem rulOk_four {r : Rul} (h : rulOk r = true) : (r.op = 1 ∨ r.op = 2) ∧ tagsOk 1 20 r.target = true ∧ r.tests.length ≤ 10 ∧ ∀ t ∈ r.tests, tstOk t = true := by
  unfold rulOk at h
  simp only [Bool.and_eq_true, Bool.or_eq_true, decide_eq_true_eq, List.all_eq_true] at h
  exact ⟨h.1.1.1, h.1.1.2, h.1.2, h.2⟩
theorem tstOk_three {t : Tst} (h : tstOk t = true) : (-99 ≤ t.at_ ∧ t.at_ ≤ 99) ∧ tagsOk 1 20 t.tags = true ∧ tagsOk 0 20 t.barrier = true := by
  unfold tstOk at h
  simp only [Bool.and_eq_true, decide_eq_true_eq] at h
  exact ⟨h.1.1.1.1, h.1.1.2, h.1.2⟩
theorem word_at (k : Nat) (hk : k < 3) (v : Value) (x y z : Value) (hv : #[x, y, z][k]? = some v) (w : World) : (Instr.index 114 (.agg #[x, y, z]) (.int .i64 k)).run Tryz.prog w = .ok v w := by
  have hv' : [x, y, z][k]? = some v := by simpa using hv
  simp [Instr.index, run_underlying Tryz.underlying114, asIntOf, go_sem]
  rw [if_pos hk, hv']
  rfl
def testsT (l : List Tst) : Bs := l.flatMap fun t => 32 :: testL t
theorem testsT_succ {l : List Tst} {k : Nat} (hk : k < l.length) : testsT (l.take (k + 1)) = testsT (l.take k) ++ 32 :: testL l[k] := by
  unfold testsT
  rw [List.take_succ_eq_append_getElem hk, List.flatMap_append]
  simp
theorem testL_len {t : Tst} (h : tstOk t = true) : (testL t).length ≤ 11000 := by
  obtain ⟨_, h2, h3⟩ := tstOk_three h
  have q1 := quoted_len (few_of_tags h2)
  have q2 := quoted_len (few_of_tags h3)
  have o1 := optL_len t.not_ [33]
  have o2 := optL_len t.scan [42]
  have o3 := optL_len t.careful [67]
  have o4 := optL_len (!t.barrier.isEmpty) ([32, 124, 32] ++ quotedL t.barrier)
  have n1 := numL_len t.at_
  unfold testL hdrL
  simp only [List.length_append, List.length_cons, List.length_nil] at *
  omega
theorem testsT_len (l : List Tst) (h : ∀ t ∈ l, tstOk t = true) : (testsT l).length ≤ l.length * 11001 := by
  induction l with
  | nil => simp [testsT]
  | cons t l ih =>
    have := testL_len (h t (by simp))
    have := ih fun x hx => h x (by simp [hx])
    unfold testsT at *
    simp only [List.flatMap_cons, List.length_append, List.length_cons]
    omega
set_option maxHeartbeats 8000000 in
set_option maxRecDepth 100000 in
theorem rule1_any (r : Rul) (ho : r.op = 1) (A1 A2 : Option Addr) (c1 c2 : Nat) (w : World) (hT : TabH w) (hV : RulV w (.slice A1 r.target.length c1, .slice A2 r.tests.length c2) r) (hok : rulOk r = true) :
    Calls Tryz.prog 54 #[.agg #[.int .i64 1, .slice A1 r.target.length c1, .slice A2 r.tests.length c2, .bool r.uns]] w fun e w' => e = .returned (.string ⟨(ruleL r).toArray⟩) ∧ Below w.heap.size w w' := by
  obtain ⟨_, ht1, ht2, ht3⟩ := rulOk_four hok
  obtain ⟨hV1, hV2⟩ := hV
  obtain ⟨A', c', e', hc', hr1⟩ := hV1
  cases e'
  have HX : Hid (ruleL r = (selB ++ optL r.uns [33] ++ 32 :: quotedL r.target) ++ testsT r.tests) := by
    unfold Hid ruleL headL
    rw [ho]; rfl
  have HF := few_of_tags ht1
  have HOK := Lib.hid ht3
  obtain ⟨U, hU⟩ : ∃ U : ByteArray, (⟨(optL r.uns (⟨#[33]⟩ : ByteArray).data.toList).toArray⟩ : ByteArray) = U := ⟨_, rfl⟩
  obtain ⟨Q, hQ⟩ : ∃ U : ByteArray, (⟨(quotedL r.target).toArray⟩ : ByteArray) = U := ⟨_, rfl⟩
  have hUd : U.data.toList = optL r.uns [33] := by rw [← hU]
  have hQd : Q.data.toList = quotedL r.target := by rw [← hQ]
  have hUs : U.size ≤ 1 := by rw [Lib.size_eq, hUd]; exact optL_len _ _
  have hQs : Q.size ≤ 5000 := by rw [Lib.size_eq, hQd]; exact quoted_len HF
  have HUQ := Lib.hid (And.intro hUd hQd)
  clear hUd hQd hok ho ht1 ht3
  obtain ⟨W, hW⟩ : ∃ W, (w.alloc (.cells #[.int .i64 1, .slice A1 r.target.length c1, .slice A2 r.tests.length c2, .bool r.uns] 42)).alloc (.cells #[.pointer none, .slice none 0 0] 69) = W := ⟨_, rfl⟩
  have bW : Below w.heap.size w W := by rw [← hW]; exact ((Below.refl _ _).alloc (Nat.le_refl _) _).alloc (by simp) _
  have hWs : W.heap.size = w.heap.size + 2 := by rw [← hW]; simp
  have hBl : Bld (w.heap.size + 1) (w.heap.size + 1) [] W := by
    rw [← hW]
    have := Bld.new (w.alloc (.cells #[.int .i64 1, .slice A1 r.target.length c1, .slice A2 r.tests.length c2, .bool r.uns] 42))
    simpa using this
  have hcell : ∀ i v, #[.int .i64 1, .slice A1 r.target.length c1, .slice A2 r.tests.length c2, .bool r.uns][i]? = some v → W.cell? ⟨w.heap.size, i, none⟩ = some v := fun i v h => by
    rw [← hW]
    exact (((Below.refl _ _).alloc (Nat.le_refl _) _).cell (w := w.alloc _) (p := ⟨w.heap.size, i, none⟩) (by simp)).trans (at3 w _ _ i v h)
  have k0 := Bey.cell (hcell 0 (.int .i64 1) rfl) (by simp [hWs])
  have k1 := Bey.cell (hcell 1 (.slice A1 r.target.length c1) rfl) (by simp [hWs])
  have k3 := Bey.cell (hcell 3 (.bool r.uns) rfl) (by simp [hWs])
  have H2 := Lib.hid (hcell 2 (.slice A2 r.tests.length c2) rfl)
  have HV2 := Lib.hid hV2
  have hTW := hT.below bW
  have q1 := Bey.sign (W := W) r.uns ⟨#[33]⟩ hU
  have q2 := Bey.quote A1 c1 r.target hTW.t (hr1.below bW) HF hQ
  have s0 : (⟨#[83, 69, 76, 69, 67, 84]⟩ : ByteArray).size = 6 := rfl
  have s1 : ((⟨#[83, 69, 76, 69, 67, 84]⟩ : ByteArray) ++ U).size = 6 + U.size := by rw [size_cat]; rfl
  have s2 : ((⟨#[83, 69, 76, 69, 67, 84]⟩ : ByteArray) ++ U ++ (⟨#[32]⟩ : ByteArray)).size = 7 + U.size := by rw [size_cat, s1]; show 6 + U.size + 1 = _; omega
  have s3 : ((⟨#[83, 69, 76, 69, 67, 84]⟩ : ByteArray) ++ U ++ (⟨#[32]⟩ : ByteArray) ++ Q).size = 7 + U.size + Q.size := by rw [size_cat, s2]
  have s4 : (⟨#[32]⟩ : ByteArray).size = 1 := rfl
  have n1 : ¬ (9223372036854775807 < 6 + U.size) := by omega
  have n2 : ¬ (9223372036854775807 < 6 + U.size + 1) := by omega
  have n3 : ¬ (9223372036854775807 < 7 + U.size + Q.size) := by omega
  haveI := Bey.ne W
  have hidx : ∀ w, (Instr.index 114 (.agg #[.string ⟨#[]⟩, .string ⟨#[83, 69, 76, 69, 67, 84]⟩, .string ⟨#[82, 69, 77, 79, 86, 69]⟩]) (.int .i64 1)).run Tryz.prog w = .ok (.string ⟨#[83, 69, 76, 69, 67, 84]⟩) w := fun w => word_at 1 (by omega) _ _ _ _ rfl w
  clear hcell hU hQ hr1 hV2
  go_enter Tryz.func54, Tryz.ntmps54
  go_wp2_with fail
  clear hW
  refine wp_region_class 13 (fun x => ∃ z : Bey W, x = z.w) (by kernel_rfl) (by kernel_rfl) ⟨⟨W.drew, (Below.refl _ _).drew⟩, rfl⟩ ?_
  simp only [List.take_succ_cons, List.take_zero, List.drop_succ_cons, List.drop_zero]
  repeat (quiet_step (first | exact q1 _ | exact q2 _))
  refine wpQuiet_nil ?_
  intro _ hw'
  obtain ⟨z, rfl⟩ := hw'
  clear k0 k1 k3 q1 q2 hidx n1 n2 n3
  obtain ⟨W1, b1⟩ := z
  dsimp only
  have hBl1 := hBl.below b1
  have p1 := WriteStr_any (w.heap.size + 1) (w.heap.size + 1) [] (⟨#[83, 69, 76, 69, 67, 84]⟩ ++ U ++ ⟨#[32]⟩ ++ Q) W1 hBl1 (by rw [s3]; simp; omega) (by have := b1.size; omega)
  have k2 := (b1.cell (p := ⟨w.heap.size, 2, none⟩) (by simp [hWs])).trans H2.out
  clear s0 s1 s2 s3 s4
  go_wp2_with fail
  refine p1.mono ?_
  rintro e W2 ⟨rfl, hBl2, b2, o2⟩
  have k4 := (b2.cell (p := ⟨w.heap.size, 2, none⟩) (by simp)).trans k2
  have bW2 : Below w.heap.size w W2 := bW.trans ((b1.mono (by omega)).trans (b2.mono (by omega)))
  have hz2 : w.heap.size + 1 ≤ W2.heap.size := by have := b1.size; have := b2.size; omega
  have hB0 : ([] : Bs) ++ ((⟨#[83, 69, 76, 69, 67, 84]⟩ : ByteArray) ++ U ++ (⟨#[32]⟩ : ByteArray) ++ Q).data.toList = selB ++ optL r.uns [33] ++ 32 :: quotedL r.target := by
    obtain ⟨e1, e2⟩ := HUQ.out
    rw [Joins.data_append, Joins.data_append, Joins.data_append, e1, e2, List.nil_append]
    show (_ ++ _ ++ [32]) ++ _ = _
    rw [List.append_assoc _ [32]]
    rfl
  rw [hB0] at hBl2
  have hl0 : (selB ++ optL r.uns [33] ++ 32 :: quotedL r.target).length ≤ 6000 := by
    have := quoted_len HF
    have := optL_len r.uns [33]
    have : (selB : Bs).length = 6 := rfl
    simp only [List.length_append, List.length_cons, List.length_nil] at *
    omega
  generalize selB ++ optL r.uns [33] ++ 32 :: quotedL r.target = hd at *
  clear k2 hB0 b1 hBl1 hBl b2 o2
  go_wp2_with fail
  go_loopw [23] (fun i wr => ∃ (k : Nat), i = .int .i64 k ∧ k ≤ r.tests.length ∧ Bld (w.heap.size + 1) (w.heap.size + 1) (hd ++ testsT (r.tests.take k)) wr ∧ Below (w.heap.size + 1) W2 wr) (fun i _ => r.tests.length - (intOf i).toNat)
  case atStart => exact ⟨0, rfl, by omega, by simpa [testsT] using hBl2, Below.refl _ _⟩
  case round =>
    obtain ⟨k, rfl, hk, hbl, hB⟩ := hrel
    have bR : Below w.heap.size w wr := bW2.trans (hB.mono (by omega))
    have hzr := hB.size
    have hzr' : w.heap.size + 1 ≤ wr.heap.size := by omega
    by_cases hlt : k < r.tests.length
    · obtain ⟨b, o, AT, cT, AY, cY, rfl, hbl1, g0, g1, g2, g3, g4, g5, hRT, hRY⟩ := HV2.out.at hlt
      have hok := HOK.out r.tests[k] (List.getElem_mem _)
      have HS := Lib.hid (testsT_succ hlt)
      have hlen := testsT_len (r.tests.take k) (fun t ht => HOK.out t (List.mem_of_mem_take ht))
      rw [List.length_take] at hlen
      have hlen2 : (hd ++ testsT (r.tests.take k)).length ≤ 200000 := by
        rw [List.length_append]
        have : min k r.tests.length * 11001 ≤ 10 * 11001 := Nat.mul_le_mul_right _ (by omega)
        omega
      obtain ⟨hn99, hg1, hg2⟩ := tstOk_three hok
      generalize r.tests[k] = tt at *
      have F1 := few_of_tags hg1
      have F2 := few_of_tags hg2
      have l0 := (bR.cell (p := ⟨b, o + k * 6, none⟩) hbl1).trans g0
      have l1 := (bR.cell (p := ⟨b, o + k * 6 + 1, none⟩) hbl1).trans g1
      have l2 := (bR.cell (p := ⟨b, o + k * 6 + 2, none⟩) hbl1).trans g2
      have l3 := (bR.cell (p := ⟨b, o + k * 6 + 3, none⟩) hbl1).trans g3
      have l4 := (bR.cell (p := ⟨b, o + k * 6 + 4, none⟩) hbl1).trans g4
      have l5 := (bR.cell (p := ⟨b, o + k * 6 + 5, none⟩) hbl1).trans g5
      have i0 : (0 : Int) ≤ (k : Int) := by omega
      have il : (k : Int) < (r.tests.length : Int) := by omega
      obtain ⟨W6, hW6⟩ : ∃ W6, wr.alloc (.cells #[.int .i64 tt.at_, .bool tt.scan, .bool tt.not_, .bool tt.careful, .slice AT tt.tags.length cT, .slice AY tt.barrier.length cY] 79) = W6 := ⟨_, rfl⟩
      have bC : Below wr.heap.size wr W6 := by rw [← hW6]; exact (Below.refl _ _).alloc (Nat.le_refl _) _
      have hz6 : W6.heap.size = wr.heap.size + 1 := by rw [← hW6]; simp
      have HB6 : Hid (W6.heap[wr.heap.size]? = some (.cells #[.int .i64 tt.at_, .bool tt.scan, .bool tt.not_, .bool tt.careful, .slice AT tt.tags.length cT, .slice AY tt.barrier.length cY] 79 (0, 0))) := by rw [Hid, ← hW6]; exact heap_alloc_new wr _
      have b6 : Below w.heap.size w W6 := bstep bR bC
      obtain ⟨U1, hU1⟩ : ∃ U : ByteArray, (⟨(optL tt.not_ (⟨#[33]⟩ : ByteArray).data.toList).toArray⟩ : ByteArray) = U := ⟨_, rfl⟩
      obtain ⟨U2, hU2⟩ : ∃ U : ByteArray, (⟨(optL tt.scan (⟨#[42]⟩ : ByteArray).data.toList).toArray⟩ : ByteArray) = U := ⟨_, rfl⟩
      obtain ⟨U3, hU3⟩ : ∃ U : ByteArray, (⟨(optL tt.careful (⟨#[67]⟩ : ByteArray).data.toList).toArray⟩ : ByteArray) = U := ⟨_, rfl⟩
      obtain ⟨N1, hN1⟩ : ∃ U : ByteArray, (⟨(numL tt.at_).toArray⟩ : ByteArray) = U := ⟨_, rfl⟩
      obtain ⟨Q1, hQ1⟩ : ∃ U : ByteArray, (⟨(quotedL tt.tags).toArray⟩ : ByteArray) = U := ⟨_, rfl⟩
      have q1 := Bey.sign (W := W6) tt.not_ ⟨#[33]⟩ hU1
      have q2 := Bey.sign (W := W6) tt.scan ⟨#[42]⟩ hU2
      have q3 := Bey.sign (W := W6) tt.careful ⟨#[67]⟩ hU3
      have q4 := Bey.itoa (W := W6) tt.at_ hn99 (hT.below b6) hN1
      have q5 := Bey.quote AT cT tt.tags (hT.below b6).t (hRT.below b6) F1 hQ1
      have d1 : U1.data.toList = optL tt.not_ [33] := by rw [← hU1]
      have d2 : U2.data.toList = optL tt.scan [42] := by rw [← hU2]
      have d3 : U3.data.toList = optL tt.careful [67] := by rw [← hU3]
      have d4 : N1.data.toList = numL tt.at_ := by rw [← hN1]
      have d5 : Q1.data.toList = quotedL tt.tags := by rw [← hQ1]
      have u1 : U1.size ≤ 1 := by rw [Lib.size_eq, d1]; exact optL_len _ _
      have u2 : U2.size ≤ 1 := by rw [Lib.size_eq, d2]; exact optL_len _ _
      have u3 : U3.size ≤ 1 := by rw [Lib.size_eq, d3]; exact optL_len _ _
      have u4 : N1.size ≤ 3 := by rw [Lib.size_eq, d4]; exact numL_len _
      have u5 : Q1.size ≤ 5000 := by rw [Lib.size_eq, d5]; exact quoted_len F1
      have HD6 := Lib.hid (And.intro d1 (And.intro d2 (And.intro d3 (And.intro d4 d5))))
      have s0 : (⟨#[32, 40]⟩ : ByteArray).size = 2 := rfl
      have s4 : (⟨#[32]⟩ : ByteArray).size = 1 := rfl
      have t1 : ((⟨#[32, 40]⟩ : ByteArray) ++ U1).size = 2 + U1.size := by rw [size_cat]; rfl
      have t2 : ((⟨#[32, 40]⟩ : ByteArray) ++ U1 ++ N1).size = 2 + U1.size + N1.size := by rw [size_cat, t1]
      have t3 : ((⟨#[32, 40]⟩ : ByteArray) ++ U1 ++ N1 ++ U2).size = 2 + U1.size + N1.size + U2.size := by rw [size_cat, t2]
      have t4 : ((⟨#[32, 40]⟩ : ByteArray) ++ U1 ++ N1 ++ U2 ++ U3).size = 2 + U1.size + N1.size + U2.size + U3.size := by rw [size_cat, t3]
      have t5 : ((⟨#[32, 40]⟩ : ByteArray) ++ U1 ++ N1 ++ U2 ++ U3 ++ (⟨#[32]⟩ : ByteArray)).size = 2 + U1.size + N1.size + U2.size + U3.size + 1 := by rw [size_cat, t4]; rfl
      have t6 : ((⟨#[32, 40]⟩ : ByteArray) ++ U1 ++ N1 ++ U2 ++ U3 ++ (⟨#[32]⟩ : ByteArray) ++ Q1).size = 2 + U1.size + N1.size + U2.size + U3.size + 1 + Q1.size := by rw [size_cat, t5]
      have n1 : ¬ (9223372036854775807 < 2 + U1.size) := by omega
      have n2 : ¬ (9223372036854775807 < 2 + U1.size + N1.size) := by omega
      have n3 : ¬ (9223372036854775807 < 2 + U1.size + N1.size + U2.size) := by omega
      have n4 : ¬ (9223372036854775807 < 2 + U1.size + N1.size + U2.size + U3.size) := by omega
      have n5 : ¬ (9223372036854775807 < 2 + U1.size + N1.size + U2.size + U3.size + 1) := by omega
      have n6 : ¬ (9223372036854775807 < 2 + U1.size + N1.size + U2.size + U3.size + 1 + Q1.size) := by omega
      have HC : Hid (∀ i v, #[.int .i64 tt.at_, .bool tt.scan, .bool tt.not_, .bool tt.careful, .slice AT tt.tags.length cT, .slice AY tt.barrier.length cY][i]? = some v → W6.cell? ⟨wr.heap.size, i, none⟩ = some v) := by
        intro i v h
        rw [← hW6]
        exact at3 wr _ _ i v h
      have m0 := Bey.cell (HC.out 0 (.int .i64 tt.at_) rfl) (by simp [hz6])
      have m1 := Bey.cell (HC.out 1 (.bool tt.scan) rfl) (by simp [hz6])
      have m2 := Bey.cell (HC.out 2 (.bool tt.not_) rfl) (by simp [hz6])
      have m3 := Bey.cell (HC.out 3 (.bool tt.careful) rfl) (by simp [hz6])
      have m4 := Bey.cell (HC.out 4 (.slice AT tt.tags.length cT) rfl) (by simp [hz6])
      have HRY := Lib.hid hRY
      haveI := Bey.ne W6
      clear g0 g1 g2 g3 g4 g5 hRT hRY hok hU1 hU2 hU3 hN1 hQ1 d1 d2 d3 d4 d5 hlen
      go_wp2_with fail
      clear hW6
      refine wp_region_class 21 (fun x => ∃ z : Bey W6, x = z.w) (by kernel_rfl) (by kernel_rfl) ⟨⟨W6.drew, (Below.refl _ _).drew⟩, rfl⟩ ?_
      simp only [List.take_succ_cons, List.take_zero, List.drop_succ_cons, List.drop_zero]
      repeat (quiet_step (first | exact q1 _ | exact q2 _ | exact q3 _ | exact q4 _ | exact q5 _))
      refine wpQuiet_nil ?_
      intro _ hw'
      obtain ⟨z, rfl⟩ := hw'
      clear m0 m1 m2 m3 m4 q1 q2 q3 q4 q5 n1 n2 n3 n4 n5 n6 t1 t2 t3 t4 t5
      obtain ⟨W7, b7⟩ := z
      dsimp only
      have hbl7 := (hbl.below bC).below b7
      have p1 := WriteStr_any (w.heap.size + 1) (w.heap.size + 1) (hd ++ testsT (r.tests.take k)) (⟨#[32, 40]⟩ ++ U1 ++ N1 ++ U2 ++ U3 ++ ⟨#[32]⟩ ++ Q1) W7 hbl7 (by rw [t6]; omega) (by have := b7.size; omega)
      have hzb := hbl.lt.2
      have hk6 : wr.heap.size < W6.heap.size := by omega
      have hb7 := (b7.block wr.heap.size hk6).trans HB6.out
      clear s0 s4 t6 l0 l1 l2 l3 l4 l5
      go_wp2_with fail
      refine p1.mono ?_
      rintro e W8 ⟨rfl, hbl8, b8, o8⟩
      have hblk := kept_block o8 hb7 (by omega) (by decide)
      have hz8 := lt_of_block hblk
      have k5 := Bey.cell (W := W8) (p := ⟨wr.heap.size, 5, none⟩) (v := .slice AY tt.barrier.length cY) (by rw [cell_of_row W8 wr.heap.size 5 _ _ (0, 0) hblk]; rfl) hz8
      have b68 : Below (w.heap.size + 1) W2 W8 := hB.trans ((bC.mono hzr').trans ((b7.mono (by omega)).trans b8))
      have bR8 : Below w.heap.size w W8 := bW2.trans (b68.mono (by omega))
      have hz88 := b68.size
      obtain ⟨Q2, hQ2⟩ : ∃ U : ByteArray, (⟨(quotedL tt.barrier).toArray⟩ : ByteArray) = U := ⟨_, rfl⟩
      have d6 : Q2.data.toList = quotedL tt.barrier := by rw [← hQ2]
      obtain ⟨U4, hU4⟩ : ∃ U : ByteArray, (⟨(optL (decide (0 < tt.barrier.length)) ((⟨#[32, 124, 32]⟩ : ByteArray) ++ Q2).data.toList).toArray⟩ : ByteArray) = U := ⟨_, rfl⟩
      have d7 : U4.data.toList = optL (!tt.barrier.isEmpty) ([32, 124, 32] ++ quotedL tt.barrier) := by
        rw [← hU4]
        show optL _ _ = _
        rw [Joins.data_append, d6]
        congr 1
        cases tt.barrier with
        | nil => rfl
        | cons x y => simp
      have q6 := Bey.quote AY cY tt.barrier (hT.below bR8).t (HRY.out.below bR8) F2 hQ2
      have q7 := Bey.sign (W := W8) (decide (0 < tt.barrier.length)) (⟨#[32, 124, 32]⟩ ++ Q2) hU4
      have v1 : Q2.size ≤ 5000 := by rw [Lib.size_eq, d6]; exact quoted_len F2
      have v2 : U4.size ≤ 5003 := by
        rw [Lib.size_eq, d7]
        have := optL_len (!tt.barrier.isEmpty) ([32, 124, 32] ++ quotedL tt.barrier)
        have := quoted_len F2
        rw [List.length_append] at *
        simp only [List.length_cons, List.length_nil] at *
        omega
      have s0 : (⟨#[32, 124, 32]⟩ : ByteArray).size = 3 := rfl
      have s1 : (⟨#[41]⟩ : ByteArray).size = 1 := rfl
      have t1 : ((⟨#[32, 124, 32]⟩ : ByteArray) ++ Q2).size = 3 + Q2.size := by rw [size_cat]; rfl
      have t2 : (U4 ++ (⟨#[41]⟩ : ByteArray)).size = U4.size + 1 := by rw [size_cat]; rfl
      have n1 : ¬ (9223372036854775807 < 3 + Q2.size) := by omega
      have n2 : ¬ (9223372036854775807 < U4.size + 1) := by omega
      have HD8 := Lib.hid d7
      haveI := Bey.ne W8
      clear hQ2 hU4 d6 d7 hblk hb7
      go_wp2_with fail
      refine wp_region_class 10 (fun x => ∃ z : Bey W8, x = z.w) (by kernel_rfl) (by kernel_rfl) ⟨⟨W8.drew, (Below.refl _ _).drew⟩, rfl⟩ ?_
      simp only [List.take_succ_cons, List.take_zero, List.drop_succ_cons, List.drop_zero]
      repeat (quiet_step (first | exact q6 _ | exact q7 _))
      refine wpQuiet_nil ?_
      intro _ hw'
      obtain ⟨z, rfl⟩ := hw'
      clear k5 q6 q7 n1 n2 t1
      obtain ⟨W9, b9⟩ := z
      dsimp only
      have hbl9 := hbl8.below b9
      have p2 := WriteStr_any (w.heap.size + 1) (w.heap.size + 1) _ (U4 ++ ⟨#[41]⟩) W9 hbl9 (by
        rw [t2, List.length_append, ← Lib.size_eq]
        simp only [size_cat]
        have e1 : (⟨#[32, 40]⟩ : ByteArray).size = 2 := rfl
        have e2 : (⟨#[32]⟩ : ByteArray).size = 1 := rfl
        omega) (by have := b9.size; omega)
      clear s0 s1 t2
      go_wp2_with fail
      refine p2.mono ?_
      rintro e WA ⟨rfl, hblA, bA, oA⟩
      have HE : Hid ((hd ++ testsT (r.tests.take k) ++ (⟨#[32, 40]⟩ ++ U1 ++ N1 ++ U2 ++ U3 ++ ⟨#[32]⟩ ++ Q1 : ByteArray).data.toList) ++ (U4 ++ ⟨#[41]⟩ : ByteArray).data.toList = hd ++ testsT (r.tests.take (k + 1))) := by
        obtain ⟨e1, e2, e3, e4, e5⟩ := HD6.out
        rw [Hid, HS.out]
        simp only [Joins.data_append, e1, e2, e3, e4, e5, HD8.out, testL, hdrL, List.append_assoc, List.cons_append, List.nil_append]
      have bE : Below (w.heap.size + 1) W2 WA := b68.trans ((b9.mono (by omega)).trans bA)
      go_wp2_with fail
      go_roundw
      case rel => exact ⟨k + 1, by go_num, by omega, by rw [← HE.out]; exact hblA, bE⟩
      case measure => simp [intOf]; omega
    · obtain rfl : k = r.tests.length := by omega
      rw [List.take_length, ← HX.out] at hbl
      have p7 := String_any (w.heap.size + 1) (w.heap.size + 1) (ruleL r) wr hbl (by omega)
      go_wp2_with fail
      refine p7.mono ?_
      rintro e WZ ⟨rfl, bZ⟩
      go_wp2_with fail
      go_returns
      exact ⟨rfl, bR.trans (bZ.mono (by omega))⟩
set_option maxHeartbeats 8000000 in
set_option maxRecDepth 100000 in
theorem rule2_any (r : Rul) (ho : r.op = 2) (A1 A2 : Option Addr) (c1 c2 : Nat) (w : World) (hT : TabH w) (hV : RulV w (.slice A1 r.target.length c1, .slice A2 r.tests.length c2) r) (hok : rulOk r = true) :
    Calls Tryz.prog 54 #[.agg #[.int .i64 2, .slice A1 r.target.length c1, .slice A2 r.tests.length c2, .bool r.uns]] w fun e w' => e = .returned (.string ⟨(ruleL r).toArray⟩) ∧ Below w.heap.size w w' := by
  obtain ⟨_, ht1, ht2, ht3⟩ := rulOk_four hok
  obtain ⟨hV1, hV2⟩ := hV
  obtain ⟨A', c', e', hc', hr1⟩ := hV1
  cases e'
  have HX : Hid (ruleL r = (remB ++ optL r.uns [33] ++ 32 :: quotedL r.target) ++ testsT r.tests) := by
    unfold Hid ruleL headL
    rw [ho]; rfl
  have HF := few_of_tags ht1
  have HOK := Lib.hid ht3
  obtain ⟨U, hU⟩ : ∃ U : ByteArray, (⟨(optL r.uns (⟨#[33]⟩ : ByteArray).data.toList).toArray⟩ : ByteArray) = U := ⟨_, rfl⟩
  obtain ⟨Q, hQ⟩ : ∃ U : ByteArray, (⟨(quotedL r.target).toArray⟩ : ByteArray) = U := ⟨_, rfl⟩
  have hUd : U.data.toList = optL r.uns [33] := by rw [← hU]
  have hQd : Q.data.toList = quotedL r.target := by rw [← hQ]
  have hUs : U.size ≤ 1 := by rw [Lib.size_eq, hUd]; exact optL_len _ _
  have hQs : Q.size ≤ 5000 := by rw [Lib.size_eq, hQd]; exact quoted_len HF
  have HUQ := Lib.hid (And.intro hUd hQd)
  clear hUd hQd hok ho ht1 ht3
  obtain ⟨W, hW⟩ : ∃ W, (w.alloc (.cells #[.int .i64 2, .slice A1 r.target.length c1, .slice A2 r.tests.length c2, .bool r.uns] 42)).alloc (.cells #[.pointer none, .slice none 0 0] 69) = W := ⟨_, rfl⟩
  have bW : Below w.heap.size w W := by rw [← hW]; exact ((Below.refl _ _).alloc (Nat.le_refl _) _).alloc (by simp) _
  have hWs : W.heap.size = w.heap.size + 2 := by rw [← hW]; simp
  have hBl : Bld (w.heap.size + 1) (w.heap.size + 1) [] W := by
    rw [← hW]
    have := Bld.new (w.alloc (.cells #[.int .i64 2, .slice A1 r.target.length c1, .slice A2 r.tests.length c2, .bool r.uns] 42))
    simpa using this
  have hcell : ∀ i v, #[.int .i64 2, .slice A1 r.target.length c1, .slice A2 r.tests.length c2, .bool r.uns][i]? = some v → W.cell? ⟨w.heap.size, i, none⟩ = some v := fun i v h => by
    rw [← hW]
    exact (((Below.refl _ _).alloc (Nat.le_refl _) _).cell (w := w.alloc _) (p := ⟨w.heap.size, i, none⟩) (by simp)).trans (at3 w _ _ i v h)
  have k0 := Bey.cell (hcell 0 (.int .i64 2) rfl) (by simp [hWs])
  have k1 := Bey.cell (hcell 1 (.slice A1 r.target.length c1) rfl) (by simp [hWs])
  have k3 := Bey.cell (hcell 3 (.bool r.uns) rfl) (by simp [hWs])
  have H2 := Lib.hid (hcell 2 (.slice A2 r.tests.length c2) rfl)
  have HV2 := Lib.hid hV2
  have hTW := hT.below bW
  have q1 := Bey.sign (W := W) r.uns ⟨#[33]⟩ hU
  have q2 := Bey.quote A1 c1 r.target hTW.t (hr1.below bW) HF hQ
  have s0 : (⟨#[82, 69, 77, 79, 86, 69]⟩ : ByteArray).size = 6 := rfl
  have s1 : ((⟨#[82, 69, 77, 79, 86, 69]⟩ : ByteArray) ++ U).size = 6 + U.size := by rw [size_cat]; rfl
  have s2 : ((⟨#[82, 69, 77, 79, 86, 69]⟩ : ByteArray) ++ U ++ (⟨#[32]⟩ : ByteArray)).size = 7 + U.size := by rw [size_cat, s1]; show 6 + U.size + 1 = _; omega
  have s3 : ((⟨#[82, 69, 77, 79, 86, 69]⟩ : ByteArray) ++ U ++ (⟨#[32]⟩ : ByteArray) ++ Q).size = 7 + U.size + Q.size := by rw [size_cat, s2]
  have s4 : (⟨#[32]⟩ : ByteArray).size = 1 := rfl
  have n1 : ¬ (9223372036854775807 < 6 + U.size) := by omega
  have n2 : ¬ (9223372036854775807 < 6 + U.size + 1) := by omega
  have n3 : ¬ (9223372036854775807 < 7 + U.size + Q.size) := by omega
  haveI := Bey.ne W
  have hidx : ∀ w, (Instr.index 114 (.agg #[.string ⟨#[]⟩, .string ⟨#[83, 69, 76, 69, 67, 84]⟩, .string ⟨#[82, 69, 77, 79, 86, 69]⟩]) (.int .i64 2)).run Tryz.prog w = .ok (.string ⟨#[82, 69, 77, 79, 86, 69]⟩) w := fun w => word_at 2 (by omega) _ _ _ _ rfl w
  clear hcell hU hQ hr1 hV2
  go_enter Tryz.func54, Tryz.ntmps54
  go_wp2_with fail
  clear hW
  refine wp_region_class 13 (fun x => ∃ z : Bey W, x = z.w) (by kernel_rfl) (by kernel_rfl) ⟨⟨W.drew, (Below.refl _ _).drew⟩, rfl⟩ ?_
  simp only [List.take_succ_cons, List.take_zero, List.drop_succ_cons, List.drop_zero]
  repeat (quiet_step (first | exact q1 _ | exact q2 _))
  refine wpQuiet_nil ?_
  intro _ hw'
  obtain ⟨z, rfl⟩ := hw'
  clear k0 k1 k3 q1 q2 hidx n1 n2 n3
  obtain ⟨W1, b1⟩ := z
  dsimp only
  have hBl1 := hBl.below b1
  have p1 := WriteStr_any (w.heap.size + 1) (w.heap.size + 1) [] (⟨#[82, 69, 77, 79, 86, 69]⟩ ++ U ++ ⟨#[32]⟩ ++ Q) W1 hBl1 (by rw [s3]; simp; omega) (by have := b1.size; omega)
  have k2 := (b1.cell (p := ⟨w.heap.size, 2, none⟩) (by simp [hWs])).trans H2.out
  clear s0 s1 s2 s3 s4
  go_wp2_with fail
  refine p1.mono ?_
  rintro e W2 ⟨rfl, hBl2, b2, o2⟩
  have k4 := (b2.cell (p := ⟨w.heap.size, 2, none⟩) (by simp)).trans k2
  have bW2 : Below w.heap.size w W2 := bW.trans ((b1.mono (by omega)).trans (b2.mono (by omega)))
  have hz2 : w.heap.size + 1 ≤ W2.heap.size := by have := b1.size; have := b2.size; omega
  have hB0 : ([] : Bs) ++ ((⟨#[82, 69, 77, 79, 86, 69]⟩ : ByteArray) ++ U ++ (⟨#[32]⟩ : ByteArray) ++ Q).data.toList = remB ++ optL r.uns [33] ++ 32 :: quotedL r.target := by
    obtain ⟨e1, e2⟩ := HUQ.out
    rw [Joins.data_append, Joins.data_append, Joins.data_append, e1, e2, List.nil_append]
    show (_ ++ _ ++ [32]) ++ _ = _
    rw [List.append_assoc _ [32]]
    rfl
  rw [hB0] at hBl2
  have hl0 : (remB ++ optL r.uns [33] ++ 32 :: quotedL r.target).length ≤ 6000 := by
    have := quoted_len HF
    have := optL_len r.uns [33]
    have : (remB : Bs).length = 6 := rfl
    simp only [List.length_append, List.length_cons, List.length_nil] at *
    omega
  generalize remB ++ optL r.uns [33] ++ 32 :: quotedL r.target = hd at *
  clear k2 hB0 b1 hBl1 hBl b2 o2
  go_wp2_with fail
  go_loopw [23] (fun i wr => ∃ (k : Nat), i = .int .i64 k ∧ k ≤ r.tests.length ∧ Bld (w.heap.size + 1) (w.heap.size + 1) (hd ++ testsT (r.tests.take k)) wr ∧ Below (w.heap.size + 1) W2 wr) (fun i _ => r.tests.length - (intOf i).toNat)
  case atStart => exact ⟨0, rfl, by omega, by simpa [testsT] using hBl2, Below.refl _ _⟩
  case round =>
    obtain ⟨k, rfl, hk, hbl, hB⟩ := hrel
    have bR : Below w.heap.size w wr := bW2.trans (hB.mono (by omega))
    have hzr := hB.size
    have hzr' : w.heap.size + 1 ≤ wr.heap.size := by omega
    by_cases hlt : k < r.tests.length
    · obtain ⟨b, o, AT, cT, AY, cY, rfl, hbl1, g0, g1, g2, g3, g4, g5, hRT, hRY⟩ := HV2.out.at hlt
      have hok := HOK.out r.tests[k] (List.getElem_mem _)
      have HS := Lib.hid (testsT_succ hlt)
      have hlen := testsT_len (r.tests.take k) (fun t ht => HOK.out t (List.mem_of_mem_take ht))
      rw [List.length_take] at hlen
      have hlen2 : (hd ++ testsT (r.tests.take k)).length ≤ 200000 := by
        rw [List.length_append]
        have : min k r.tests.length * 11001 ≤ 10 * 11001 := Nat.mul_le_mul_right _ (by omega)
        omega
      obtain ⟨hn99, hg1, hg2⟩ := tstOk_three hok
      generalize r.tests[k] = tt at *
      have F1 := few_of_tags hg1
      have F2 := few_of_tags hg2
      have l0 := (bR.cell (p := ⟨b, o + k * 6, none⟩) hbl1).trans g0
      have l1 := (bR.cell (p := ⟨b, o + k * 6 + 1, none⟩) hbl1).trans g1
      have l2 := (bR.cell (p := ⟨b, o + k * 6 + 2, none⟩) hbl1).trans g2
      have l3 := (bR.cell (p := ⟨b, o + k * 6 + 3, none⟩) hbl1).trans g3
      have l4 := (bR.cell (p := ⟨b, o + k * 6 + 4, none⟩) hbl1).trans g4
      have l5 := (bR.cell (p := ⟨b, o + k * 6 + 5, none⟩) hbl1).trans g5
      have i0 : (0 : Int) ≤ (k : Int) := by omega
      have il : (k : Int) < (r.tests.length : Int) := by omega
      obtain ⟨W6, hW6⟩ : ∃ W6, wr.alloc (.cells #[.int .i64 tt.at_, .bool tt.scan, .bool tt.not_, .bool tt.careful, .slice AT tt.tags.length cT, .slice AY tt.barrier.length cY] 79) = W6 := ⟨_, rfl⟩
      have bC : Below wr.heap.size wr W6 := by rw [← hW6]; exact (Below.refl _ _).alloc (Nat.le_refl _) _
      have hz6 : W6.heap.size = wr.heap.size + 1 := by rw [← hW6]; simp
      have HB6 : Hid (W6.heap[wr.heap.size]? = some (.cells #[.int .i64 tt.at_, .bool tt.scan, .bool tt.not_, .bool tt.careful, .slice AT tt.tags.length cT, .slice AY tt.barrier.length cY] 79 (0, 0))) := by rw [Hid, ← hW6]; exact heap_alloc_new wr _
      have b6 : Below w.heap.size w W6 := bstep bR bC
      obtain ⟨U1, hU1⟩ : ∃ U : ByteArray, (⟨(optL tt.not_ (⟨#[33]⟩ : ByteArray).data.toList).toArray⟩ : ByteArray) = U := ⟨_, rfl⟩
      obtain ⟨U2, hU2⟩ : ∃ U : ByteArray, (⟨(optL tt.scan (⟨#[42]⟩ : ByteArray).data.toList).toArray⟩ : ByteArray) = U := ⟨_, rfl⟩
      obtain ⟨U3, hU3⟩ : ∃ U : ByteArray, (⟨(optL tt.careful (⟨#[67]⟩ : ByteArray).data.toList).toArray⟩ : ByteArray) = U := ⟨_, rfl⟩
      obtain ⟨N1, hN1⟩ : ∃ U : ByteArray, (⟨(numL tt.at_).toArray⟩ : ByteArray) = U := ⟨_, rfl⟩
      obtain ⟨Q1, hQ1⟩ : ∃ U : ByteArray, (⟨(quotedL tt.tags).toArray⟩ : ByteArray) = U := ⟨_, rfl⟩
      have q1 := Bey.sign (W := W6) tt.not_ ⟨#[33]⟩ hU1
      have q2 := Bey.sign (W := W6) tt.scan ⟨#[42]⟩ hU2
      have q3 := Bey.sign (W := W6) tt.careful ⟨#[67]⟩ hU3
      have q4 := Bey.itoa (W := W6) tt.at_ hn99 (hT.below b6) hN1
      have q5 := Bey.quote AT cT tt.tags (hT.below b6).t (hRT.below b6) F1 hQ1
      have d1 : U1.data.toList = optL tt.not_ [33] := by rw [← hU1]
      have d2 : U2.data.toList = optL tt.scan [42] := by rw [← hU2]
      have d3 : U3.data.toList = optL tt.careful [67] := by rw [← hU3]
      have d4 : N1.data.toList = numL tt.at_ := by rw [← hN1]
      have d5 : Q1.data.toList = quotedL tt.tags := by rw [← hQ1]
      have u1 : U1.size ≤ 1 := by rw [Lib.size_eq, d1]; exact optL_len _ _
      have u2 : U2.size ≤ 1 := by rw [Lib.size_eq, d2]; exact optL_len _ _
      have u3 : U3.size ≤ 1 := by rw [Lib.size_eq, d3]; exact optL_len _ _
      have u4 : N1.size ≤ 3 := by rw [Lib.size_eq, d4]; exact numL_len _
      have u5 : Q1.size ≤ 5000 := by rw [Lib.size_eq, d5]; exact quoted_len F1
      have HD6 := Lib.hid (And.intro d1 (And.intro d2 (And.intro d3 (And.intro d4 d5))))
      have s0 : (⟨#[32, 40]⟩ : ByteArray).size = 2 := rfl
      have s4 : (⟨#[32]⟩ : ByteArray).size = 1 := rfl
      have t1 : ((⟨#[32, 40]⟩ : ByteArray) ++ U1).size = 2 + U1.size := by rw [size_cat]; rfl
      have t2 : ((⟨#[32, 40]⟩ : ByteArray) ++ U1 ++ N1).size = 2 + U1.size + N1.size := by rw [size_cat, t1]
      have t3 : ((⟨#[32, 40]⟩ : ByteArray) ++ U1 ++ N1 ++ U2).size = 2 + U1.size + N1.size + U2.size := by rw [size_cat, t2]
      have t4 : ((⟨#[32, 40]⟩ : ByteArray) ++ U1 ++ N1 ++ U2 ++ U3).size = 2 + U1.size + N1.size + U2.size + U3.size := by rw [size_cat, t3]
      have t5 : ((⟨#[32, 40]⟩ : ByteArray) ++ U1 ++ N1 ++ U2 ++ U3 ++ (⟨#[32]⟩ : ByteArray)).size = 2 + U1.size + N1.size + U2.size + U3.size + 1 := by rw [size_cat, t4]; rfl
      have t6 : ((⟨#[32, 40]⟩ : ByteArray) ++ U1 ++ N1 ++ U2 ++ U3 ++ (⟨#[32]⟩ : ByteArray) ++ Q1).size = 2 + U1.size + N1.size + U2.size + U3.size + 1 + Q1.size := by rw [size_cat, t5]
      have n1 : ¬ (9223372036854775807 < 2 + U1.size) := by omega
      have n2 : ¬ (9223372036854775807 < 2 + U1.size + N1.size) := by omega
      have n3 : ¬ (9223372036854775807 < 2 + U1.size + N1.size + U2.size) := by omega
      have n4 : ¬ (9223372036854775807 < 2 + U1.size + N1.size + U2.size + U3.size) := by omega
      have n5 : ¬ (9223372036854775807 < 2 + U1.size + N1.size + U2.size + U3.size + 1) := by omega
      have n6 : ¬ (9223372036854775807 < 2 + U1.size + N1.size + U2.size + U3.size + 1 + Q1.size) := by omega
      have HC : Hid (∀ i v, #[.int .i64 tt.at_, .bool tt.scan, .bool tt.not_, .bool tt.careful, .slice AT tt.tags.length cT, .slice AY tt.barrier.length cY][i]? = some v → W6.cell? ⟨wr.heap.size, i, none⟩ = some v) := by
        intro i v h
        rw [← hW6]
        exact at3 wr _ _ i v h
      have m0 := Bey.cell (HC.out 0 (.int .i64 tt.at_) rfl) (by simp [hz6])
      have m1 := Bey.cell (HC.out 1 (.bool tt.scan) rfl) (by simp [hz6])
      have m2 := Bey.cell (HC.out 2 (.bool tt.not_) rfl) (by simp [hz6])
      have m3 := Bey.cell (HC.out 3 (.bool tt.careful) rfl) (by simp [hz6])
      have m4 := Bey.cell (HC.out 4 (.slice AT tt.tags.length cT) rfl) (by simp [hz6])
      have HRY := Lib.hid hRY
      haveI := Bey.ne W6
      clear g0 g1 g2 g3 g4 g5 hRT hRY hok hU1 hU2 hU3 hN1 hQ1 d1 d2 d3 d4 d5 hlen
      go_wp2_with fail
      clear hW6
      refine wp_region_class 21 (fun x => ∃ z : Bey W6, x = z.w) (by kernel_rfl) (by kernel_rfl) ⟨⟨W6.drew, (Below.refl _ _).drew⟩, rfl⟩ ?_
      simp only [List.take_succ_cons, List.take_zero, List.drop_succ_cons, List.drop_zero]
      repeat (quiet_step (first | exact q1 _ | exact q2 _ | exact q3 _ | exact q4 _ | exact q5 _))
      refine wpQuiet_nil ?_
      intro _ hw'
      obtain ⟨z, rfl⟩ := hw'
      clear m0 m1 m2 m3 m4 q1 q2 q3 q4 q5 n1 n2 n3 n4 n5 n6 t1 t2 t3 t4 t5
      obtain ⟨W7, b7⟩ := z
      dsimp only
      have hbl7 := (hbl.below bC).below b7
      have p1 := WriteStr_any (w.heap.size + 1) (w.heap.size + 1) (hd ++ testsT (r.tests.take k)) (⟨#[32, 40]⟩ ++ U1 ++ N1 ++ U2 ++ U3 ++ ⟨#[32]⟩ ++ Q1) W7 hbl7 (by rw [t6]; omega) (by have := b7.size; omega)
      have hzb := hbl.lt.2
      have hk6 : wr.heap.size < W6.heap.size := by omega
      have hb7 := (b7.block wr.heap.size hk6).trans HB6.out
      clear s0 s4 t6 l0 l1 l2 l3 l4 l5
      go_wp2_with fail
      refine p1.mono ?_
      rintro e W8 ⟨rfl, hbl8, b8, o8⟩
      have hblk := kept_block o8 hb7 (by omega) (by decide)
      have hz8 := lt_of_block hblk
      have k5 := Bey.cell (W := W8) (p := ⟨wr.heap.size, 5, none⟩) (v := .slice AY tt.barrier.length cY) (by rw [cell_of_row W8 wr.heap.size 5 _ _ (0, 0) hblk]; rfl) hz8
      have b68 : Below (w.heap.size + 1) W2 W8 := hB.trans ((bC.mono hzr').trans ((b7.mono (by omega)).trans b8))
      have bR8 : Below w.heap.size w W8 := bW2.trans (b68.mono (by omega))
      have hz88 := b68.size
      obtain ⟨Q2, hQ2⟩ : ∃ U : ByteArray, (⟨(quotedL tt.barrier).toArray⟩ : ByteArray) = U := ⟨_, rfl⟩
      have d6 : Q2.data.toList = quotedL tt.barrier := by rw [← hQ2]
      obtain ⟨U4, hU4⟩ : ∃ U : ByteArray, (⟨(optL (decide (0 < tt.barrier.length)) ((⟨#[32, 124, 32]⟩ : ByteArray) ++ Q2).data.toList).toArray⟩ : ByteArray) = U := ⟨_, rfl⟩
      have d7 : U4.data.toList = optL (!tt.barrier.isEmpty) ([32, 124, 32] ++ quotedL tt.barrier) := by
        rw [← hU4]
        show optL _ _ = _
        rw [Joins.data_append, d6]
        congr 1
        cases tt.barrier with
        | nil => rfl
        | cons x y => simp
      have q6 := Bey.quote AY cY tt.barrier (hT.below bR8).t (HRY.out.below bR8) F2 hQ2
      have q7 := Bey.sign (W := W8) (decide (0 < tt.barrier.length)) (⟨#[32, 124, 32]⟩ ++ Q2) hU4
      have v1 : Q2.size ≤ 5000 := by rw [Lib.size_eq, d6]; exact quoted_len F2
      have v2 : U4.size ≤ 5003 := by
        rw [Lib.size_eq, d7]
        have := optL_len (!tt.barrier.isEmpty) ([32, 124, 32] ++ quotedL tt.barrier)
        have := quoted_len F2
        rw [List.length_append] at *
        simp only [List.length_cons, List.length_nil] at *
        omega
      have s0 : (⟨#[32, 124, 32]⟩ : ByteArray).size = 3 := rfl
      have s1 : (⟨#[41]⟩ : ByteArray).size = 1 := rfl
      have t1 : ((⟨#[32, 124, 32]⟩ : ByteArray) ++ Q2).size = 3 + Q2.size := by rw [size_cat]; rfl
      have t2 : (U4 ++ (⟨#[41]⟩ : ByteArray)).size = U4.size + 1 := by rw [size_cat]; rfl
      have n1 : ¬ (9223372036854775807 < 3 + Q2.size) := by omega
      have n2 : ¬ (9223372036854775807 < U4.size + 1) := by omega
      have HD8 := Lib.hid d7
      haveI := Bey.ne W8
      clear hQ2 hU4 d6 d7 hblk hb7
      go_wp2_with fail
      refine wp_region_class 10 (fun x => ∃ z : Bey W8, x = z.w) (by kernel_rfl) (by kernel_rfl) ⟨⟨W8.drew, (Below.refl _ _).drew⟩, rfl⟩ ?_
      simp only [List.take_succ_cons, List.take_zero, List.drop_succ_cons, List.drop_zero]
      repeat (quiet_step (first | exact q6 _ | exact q7 _))
      refine wpQuiet_nil ?_
      intro _ hw'
      obtain ⟨z, rfl⟩ := hw'
      clear k5 q6 q7 n1 n2 t1
      obtain ⟨W9, b9⟩ := z
      dsimp only
      have hbl9 := hbl8.below b9
      have p2 := WriteStr_any (w.heap.size + 1) (w.heap.size + 1) _ (U4 ++ ⟨#[41]⟩) W9 hbl9 (by
        rw [t2, List.length_append, ← Lib.size_eq]
        simp only [size_cat]
        have e1 : (⟨#[32, 40]⟩ : ByteArray).size = 2 := rfl
        have e2 : (⟨#[32]⟩ : ByteArray).size = 1 := rfl
        omega) (by have := b9.size; omega)
      clear s0 s1 t2
      go_wp2_with fail
      refine p2.mono ?_
      rintro e WA ⟨rfl, hblA, bA, oA⟩
      have HE : Hid ((hd ++ testsT (r.tests.take k) ++ (⟨#[32, 40]⟩ ++ U1 ++ N1 ++ U2 ++ U3 ++ ⟨#[32]⟩ ++ Q1 : ByteArray).data.toList) ++ (U4 ++ ⟨#[41]⟩ : ByteArray).data.toList = hd ++ testsT (r.tests.take (k + 1))) := by
        obtain ⟨e1, e2, e3, e4, e5⟩ := HD6.out
        rw [Hid, HS.out]
        simp only [Joins.data_append, e1, e2, e3, e4, e5, HD8.out, testL, hdrL, List.append_assoc, List.cons_append, List.nil_append]
      have bE : Below (w.heap.size + 1) W2 WA := b68.trans ((b9.mono (by omega)).trans bA)
      go_wp2_with fail
      go_roundw
      case rel => exact ⟨k + 1, by go_num, by omega, by rw [← HE.out]; exact hblA, bE⟩
      case measure => simp [intOf]; omega
    · obtain rfl : k = r.tests.length := by omega
      rw [List.take_length, ← HX.out] at hbl
      have p7 := String_any (w.heap.size + 1) (w.heap.size + 1) (ruleL r) wr hbl (by omega)
      go_wp2_with fail
      refine p7.mono ?_
      rintro e WZ ⟨rfl, bZ⟩
      go_wp2_with fail
      go_returns
      exact ⟨rfl, bR.trans (bZ.mono (by omega))⟩
end Go.Proofs.YtplipnchkkhdaaaGreatDoor
