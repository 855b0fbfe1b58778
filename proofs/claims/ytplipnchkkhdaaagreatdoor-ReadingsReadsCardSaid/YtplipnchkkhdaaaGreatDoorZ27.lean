/- Walk of the reference of layer 33: readTest (whole). -/
import Derived.Test.YtplipnchkkhdaaaGreatDoorZ25
import Derived.Test.YtplipnchkkhdaaaGreatDoorZ26
import Derived.Deep.RegionLaw
import Derived.BigCall
import Derived.BigRegion
import Derived.BigQuiet
import Derived.IntWalk
import Derived.Deep.DeepCutAuto
import Derived.Deep.AppendLies
namespace Go.Proofs.YtplipnchkkhdaaaGreatDoor
open Go.RowKit
set_option linter.unusedVariables false

set_option maxHeartbeats 16000000 in
set_option maxRecDepth 100000 in
theorem rreadTest_any (b o c : Nat) (l : List Bs) (w : World) (hrow : RowAt w (some ⟨b, o, none⟩) (l.map S)) (hne : 0 < l.length) (hc : l.length ≤ c) (hl1 : l.length ≤ 1000000000) (hcm : c ≤ 9223372036854775807) (hsz : ∀ x ∈ l, x.length ≤ 1000000) :
    Calls Tryz.prog 100 #[.slice (some ⟨b, o, none⟩) l.length c] w fun e w' => ∃ vT vB, e = .returned (.agg #[.int .i64 (testR l).at_, .bool (testR l).scan, .bool (testR l).not_, .bool (testR l).careful, vT, vB]) ∧
      Own w.heap.size 9 vT ((testR l).tags.map S) w' ∧ Own w.heap.size 9 vB ((testR l).barrier.map S) w' ∧ Below w.heap.size w w' := by
  rcases head_cases (⟨(l.headD []).toArray⟩ : ByteArray) with h | h | h
  · exact rreadTest_0 b o c l w hrow hne hc hl1 hcm hsz h
  · exact rreadTest_1 b o c l w hrow hne hc hl1 hcm hsz h
  · exact rreadTest_2 b o c l w hrow hne hc hl1 hcm hsz h

/- Plain words for the reference's readRule; a step law for a call inside a region that draws. -/
open Go.RowKit
set_option linter.unusedVariables false

theorem testsR_cons (n : Nat) (w : Bs) (r : List Bs) : testsR (n + 1) (w :: r) = (if closesAt (w :: r) = (w :: r).length ∨ opens w = false then none
    else match testsR n ((w :: r).drop (closesAt (w :: r) + 1)) with
      | some ts => some (testR (stripLast (w.tail :: ((w :: r).take (closesAt (w :: r) + 1)).tail)) :: ts)
      | none => none) := by rw [testsR]; rfl
theorem testsR_nil (n : Nat) : testsR n [] = some [] := by cases n <;> rfl
theorem testsR_fuel : ∀ (n m : Nat) (l : List Bs), l.length ≤ n → l.length ≤ m → testsR n l = testsR m l
  | n, m, [], _, _ => by rw [testsR_nil, testsR_nil]
  | 0, m, w :: r, h, _ => by simp at h
  | n + 1, 0, w :: r, _, h => by simp at h
  | n + 1, m + 1, w :: r, h1, h2 => by
    rw [testsR_cons, testsR_cons]
    have hl : ((w :: r).drop (closesAt (w :: r) + 1)).length ≤ r.length := by rw [List.length_drop, List.length_cons]; omega
    simp only [List.length_cons] at h1 h2
    rw [testsR_fuel n m _ (by omega) (by omega)]
theorem closesAt_le : ∀ (l : List Bs), closesAt l ≤ l.length
  | [] => Nat.le_refl _
  | w :: r => by
    unfold closesAt
    split
    · exact Nat.zero_le _
    · have := closesAt_le r
      simp only [List.length_cons]; omega
/-- what stands in front of a word does not close; it is the first that does -/
theorem closesAt_skip1 {f : List Bs} {k : Nat} (h : k < f.length) (hc : closes f[k] = false) : closesAt (f.drop k) = closesAt (f.drop (k + 1)) + 1 := by
  rw [List.drop_eq_getElem_cons h, closesAt, if_neg (by rw [hc]; decide)]
theorem closesAt_found {f : List Bs} {k : Nat} (h : k < f.length) (hc : closes f[k] = true) : closesAt (f.drop k) = 0 := by
  rw [List.drop_eq_getElem_cons h, closesAt, if_pos hc]
theorem opensAt_skip1 {f : List Bs} {k : Nat} (h : k < f.length) (hc : opens f[k] = false) : opensAt (f.drop k) = opensAt (f.drop (k + 1)) + 1 := by
  rw [List.drop_eq_getElem_cons h, opensAt, if_neg (by rw [hc]; decide)]
theorem opensAt_found {f : List Bs} {k : Nat} (h : k < f.length) (hc : opens f[k] = true) : opensAt (f.drop k) = 0 := by
  rw [List.drop_eq_getElem_cons h, opensAt, if_pos hc]
/-- the words of a test, as the reference cuts them -/
def partR (f : List Bs) (k j : Nat) : List Bs := (f.drop k).take (j + 1 - k)
theorem testsR_bad {f : List Bs} {k j : Nat} {ts : List Tst} (h : k < f.length) (hj : k ≤ j) (hc : closesAt (f.drop k) = j - k) (hb : j = f.length ∨ opens f[k] = false) (H : testsR f.length (f.drop 1 |>.drop (opensAt (f.drop 1))) = (testsR f.length (f.drop k)).map (ts ++ ·)) :
    testsR f.length (f.drop 1 |>.drop (opensAt (f.drop 1))) = none := by
  rw [H]
  obtain ⟨n, hn⟩ : ∃ n, f.length = n + 1 := ⟨f.length - 1, by omega⟩
  rw [hn, List.drop_eq_getElem_cons h, testsR_cons, if_pos]
  · rfl
  · rw [← List.drop_eq_getElem_cons h, hc, List.length_drop]
    rcases hb with rfl | hb
    · exact Or.inl rfl
    · exact Or.inr hb
theorem testsR_good {f : List Bs} {k j : Nat} {ts : List Tst} (h : k < f.length) (hj : k ≤ j) (hjl : j < f.length) (hc : closesAt (f.drop k) = j - k) (hb : opens f[k] = true) (H : testsR f.length (f.drop 1 |>.drop (opensAt (f.drop 1))) = (testsR f.length (f.drop k)).map (ts ++ ·)) :
    testsR f.length (f.drop 1 |>.drop (opensAt (f.drop 1))) = (testsR f.length (f.drop (j + 1))).map ((ts ++ [testR (stripLast (f[k].tail :: (partR f k j).tail))]) ++ ·) := by
  rw [H]
  obtain ⟨n, hn⟩ : ∃ n, f.length = n + 1 := ⟨f.length - 1, by omega⟩
  have e1 := testsR_cons n f[k] (f.drop (k + 1))
  rw [← List.drop_eq_getElem_cons h, hc] at e1
  rw [hn, e1, if_neg]
  · rw [List.drop_drop, show k + (j - k + 1) = j + 1 by omega, testsR_fuel n (n + 1) _ (by rw [List.length_drop]; omega) (by rw [List.length_drop]; omega)]
    unfold partR
    rw [show j + 1 - k = j - k + 1 by omega]
    cases testsR (n + 1) (f.drop (j + 1)) with
    | none => rfl
    | some t => simp
  · rintro (e | e)
    · rw [List.length_drop] at e; omega
    · rw [hb] at e; cases e
theorem testsR_end {f : List Bs} {ts : List Tst} (H : testsR f.length (f.drop 1 |>.drop (opensAt (f.drop 1))) = (testsR f.length (f.drop f.length)).map (ts ++ ·)) :
    testsR f.length (f.drop 1 |>.drop (opensAt (f.drop 1))) = some ts := by
  rw [H, List.drop_length, testsR_nil]; simp
theorem stripLast_set {p : List Bs} {n : Nat} (h : p.length = n + 1) : stripLast p = p.set n (p[n]'(by omega)).dropLast := by
  have hl : p.getLast? = some (p[n]'(by omega)) := by
    rw [List.getLast?_eq_getElem?, show p.length - 1 = n by omega, List.getElem?_eq_getElem]
  unfold stripLast
  rw [hl]
  simp only
  apply List.ext_getElem
  · simp; omega
  · intro i h1 h2
    rw [List.getElem_set]
    split
    · rename_i e
      subst e
      rw [List.getElem_append_right (by rw [List.length_dropLast]; omega)]
      simp [List.length_dropLast, h]
    · rw [List.getElem_append_left (by rw [List.length_dropLast]; simp at h1; omega), List.getElem_dropLast]
theorem ruleR_eq (s : Bs) : ruleR s = match testsR (wordsL s).length ((wordsL s).drop 1 |>.drop (opensAt ((wordsL s).drop 1))) with
    | some ts => ⟨if ((wordsL s).headD []).headD 0 = 82 then 2 else 1, namesR (((wordsL s).drop 1).take (opensAt ((wordsL s).drop 1))), ts, decide (((wordsL s).headD []).getLast? = some 33)⟩
    | none => zeroR := by
  unfold ruleR
  simp only [← List.drop_one]
  rw [testsR_fuel ((wordsL s).drop 1).length (wordsL s).length _ (by rw [List.length_drop]; omega) (by rw [List.length_drop, List.length_drop]; omega)]
  rfl
/-- a call of a function as one step of a region that draws -/
theorem step_call {P : Program} {ops : Array Oper} {o : Oper} {a : Act} {w : World} {K : Act → World → Prop} {Q : Exit → Act → World → Prop} {E : Prop}
    (hg : o.guard = none) (f : FuncId) (x : Operand) (t : TypeId) (hop : o.op = Op.call { callee := Callee.value (Operand.func f), args := #[x], argTypes := #[t] })
    (he : ∀ args w, (callFunc f args).run P w = .ok (.enter f args) w) (v : Value) (hx : a.eval x = v) {R : Value → World → Prop} (hc : Calls P f #[v] w fun e w' => ∃ u, e = .returned u ∧ R u w') (hK : ∀ u w', R u w' → K (a.put o.dst u) w') :
    if Region.wanted o (yielded ops a.tmps) = true then Oper.wp P o a w K Q else E := by
  have hw : Region.wanted o (yielded ops a.tmps) = true := by simp [Region.wanted, hg]
  rw [if_pos hw]
  obtain ⟨dst, op, ty, pos, after, guard⟩ := o
  simp only at hop hg hK
  subst hop
  unfold Oper.wp
  rw [execOp_call_go, show (#[] ++ #[x].map a.eval ++ #[] : Array Value) = #[v] by simp [hx], he, Oper.upon_enter]
  refine hc.mono ?_
  rintro e w' ⟨u, rfl, h⟩
  exact hK u w' h

/- The reference's readTest on a row that is owned. -/
open Go.RowKit
set_option linter.unusedVariables false
set_option maxRecDepth 100000
theorem rreadTest_own {W9 : World} {B gp cap n1 : Nat} {l : List Bs} {tt : Tst} (h : W9.ownsRow B 9 1 (.slice (some ⟨gp, 0, none⟩) (n1 + 1) cap) (n1 + 1) (l.map S)) (hsl : l.length = n1 + 1) (htt : testR l = tt) (hn : n1 ≤ 100000000) (hsz : ∀ x ∈ l, x.length ≤ 1000000) :
    Calls Tryz.prog 100 #[.slice (some ⟨gp, 0, none⟩) (n1 + 1) cap] W9.drew fun e w' => ∃ u, e = .returned u ∧ ∃ A1 N1 d1 A2 N2 d2, u = .agg #[.int .i64 tt.at_, .bool tt.scan, .bool tt.not_, .bool tt.careful, .slice A1 N1 d1, .slice A2 N2 d2] ∧
      Hid (w'.ownsRow W9.heap.size 9 1 (.slice A1 N1 d1) tt.tags.length (tt.tags.map S)) ∧ Hid (w'.ownsRow W9.heap.size 9 1 (.slice A2 N2 d2) tt.barrier.length (tt.barrier.map S)) ∧ Hid (Below W9.heap.size W9 w') := by
  obtain ⟨A', c', e', hcc, hrw⟩ := own_sl h
  simp only [Value.slice.injEq, true_and] at e'
  obtain ⟨rfl, rfl⟩ := e'
  have hcapm : cap ≤ 9223372036854775807 := by
    rcases h.2 with ⟨e, _⟩ | ⟨_, _, _, e, _, _, _, h, _⟩
    · simp at e
    · simp only [Value.slice.injEq, true_and] at e
      unfold maxLen at h
      omega
  have hrd : RowAt W9.drew (some ⟨gp, 0, none⟩) (l.map S) := hrw.below (Below.refl _ W9).drew
  have p4 := rreadTest_any gp 0 cap l W9.drew hrd (by rw [hsl]; omega) (by rw [hsl]; exact hcc) (by rw [hsl]; omega) hcapm hsz
  rw [hsl, htt] at p4
  refine p4.mono ?_
  rintro e w' ⟨vT, vB, rfl, o1, o2, o3⟩
  unfold Own at o1 o2
  rw [List.length_map, heap_drew] at o1 o2
  obtain ⟨A1, d1, rfl, _, _⟩ := own_sl o1
  obtain ⟨A2, d2, rfl, _, _⟩ := own_sl o2
  exact ⟨_, rfl, A1, _, d1, A2, _, d2, rfl, Lib.hid o1, Lib.hid o2, Lib.hid (bstep (Below.refl _ W9).drew o3)⟩

/- Walk of the reference of layer 33: readRule. -/
open Go.RowKit
set_option linter.unusedVariables false

theorem addr_add0k {b o : Nat} (j : Nat) : (⟨b, o, none⟩ : Addr).add j = ⟨b, o + j, none⟩ := by unfold Addr.add; split <;> simp_all
theorem partR_get {f : List Bs} {k j i : Nat} (h : i < (partR f k j).length) (h2 : k + i < f.length) : (partR f k j)[i] = f[k + i] := by simp only [partR, List.getElem_take, List.getElem_drop]
theorem last_ne {f : List Bs} {k j n : Nat} (ho : ∀ {h : k < f.length}, opens f[k] = true) {h : j < f.length} (hc : closes f[j] = true) (hj : j < f.length) (hjk : j + 1 - k = n + 1) (hkj : k ≤ j) (hl : (partR f k j).length = n + 1) {hk : k < f.length} {hn : n < (f[k].tail :: (partR f k j).tail).length} :
    (f[k].tail :: (partR f k j).tail)[n] ≠ [] := by
  have hne : ∀ w : Bs, closes w = true → w ≠ [] := fun w hw e => by rw [e] at hw; cases hw
  cases n with
  | zero =>
    obtain rfl : j = k := by omega
    simp only [List.getElem_cons_zero]
    have ho' := ho (h := hk)
    cases hf : f[j] with
    | nil => rw [hf] at ho'; cases ho'
    | cons x r =>
      rw [hf] at ho' hc
      have hx : x = 40 := by simpa [opens] using ho'
      subst hx
      have : closesGo false r = true := by
        have h2 : closes (40 :: r) = closesGo false r := by unfold closes; rw [closesGo_plain (by decide)]; rfl
        rw [h2] at hc; exact hc
      intro e
      simp only [List.tail_cons] at e
      rw [e] at this
      cases this
  | succ n =>
    simp only [List.getElem_cons_succ]
    rw [List.getElem_tail, partR_get (by omega) (by omega)]
    apply hne
    rw [← hc]
    congr 1
    simp only [show k + (n + 1) = j by omega]
theorem strip_len {l : List Bs} {b : Nat} (h : ∀ x ∈ l, x.length ≤ b) : ∀ x ∈ stripLast l, x.length ≤ b := by
  intro x hx
  unfold stripLast at hx
  split at hx
  · rename_i w hw
    rcases List.mem_append.1 hx with hx | hx
    · exact h x ((List.dropLast_sublist l).subset hx)
    · simp only [List.mem_singleton] at hx
      subst hx
      have := h w (List.mem_of_getLast? hw)
      rw [List.length_dropLast]; omega
  · exact h x hx
theorem strip_length {l : List Bs} {n : Nat} (h : l.length = n + 1) : (stripLast l).length = n + 1 := by
  rw [stripLast_set h, List.length_set, h]
theorem first_is (s : ByteArray) (c : UInt8) (hc : c ≠ 0) : (s.size = 0 ∧ decide (s.data.toList.headD 0 = c) = false) ∨ (∃ h : 0 < s.size, ((((s[0]'h).toNat : Nat) : Int) == ((c.toNat : Nat) : Int)) = decide (s.data.toList.headD 0 = c)) := by
  by_cases h : 0 < s.size
  · right
    refine ⟨h, ?_⟩
    rw [u8_beq, byte0 s h]
  · left
    refine ⟨by omega, ?_⟩
    rw [List.eq_nil_of_length_eq_zero (show s.data.toList.length = 0 by rw [← Lib.size_eq]; omega)]
    exact decide_eq_false (fun e => hc e.symm)
theorem last_is (s : ByteArray) (c : UInt8) : (s.size = 0 ∧ decide (s.data.toList.getLast? = some c) = false) ∨ (∃ m, s.size = m + 1 ∧ ∃ h : m < s.size, ((((s[m]'h).toNat : Nat) : Int) == ((c.toNat : Nat) : Int)) = decide (s.data.toList.getLast? = some c)) := by
  by_cases h : 0 < s.size
  · right
    refine ⟨s.size - 1, by omega, by omega, ?_⟩
    have hl : s.data.toList.getLast? = some s[s.size - 1] := by
      have hl2 : s.data.toList.length - 1 < s.data.toList.length := by rw [← Lib.size_eq]; omega
      rw [List.getLast?_eq_getElem?, List.getElem?_eq_getElem hl2]
      congr 1
    rw [u8_beq, hl]
    congr 1
    simp
  · left
    refine ⟨by omega, ?_⟩
    rw [List.eq_nil_of_length_eq_zero (show s.data.toList.length = 0 by rw [← Lib.size_eq]; omega)]
    rfl
theorem wrapM (a : Nat) (h : a ≤ 1000000000000000000) : IntKind.i64.wrap (a : Int) = (a : Int) := by
  have e : IntKind.i64.wrap (a : Int) = wrap64 (a : Int) := by rw [IntKind.wrap_i64]; unfold wrap64; rfl
  rw [e]
  exact IntWalk.wrap64_in _ ⟨by omega, by omega⟩
/-- what readRule returns: all of it lies in new memory -/
def RulPostR (w : World) (r : Rul) (e : Ending) (w' : World) : Prop :=
  ∃ vT vX, e = .returned (.agg #[.int .i64 r.op, vT, vX, .bool r.uns]) ∧ Firm (fun b => b < w.heap.size) w' (fun W => RulV W (vT, vX) r) ∧ Below w.heap.size w w'
set_option maxHeartbeats 16000000 in
set_option maxRecDepth 100000 in
theorem rreadRule_any (s : ByteArray) (w : World) (hs : s.size ≤ 20000) : Calls Tryz.prog 70 #[.string s] w (RulPostR w (ruleR s.data.toList)) := by
  obtain ⟨i0, hi, hz0, hz1, hz2⟩ := info_parts strInfo
  obtain ⟨it, ti, tz0, tz1, tz2⟩ := info_parts tstInfo
  have b0 : Below w.heap.size w (w.alloc (.cells #[.int .i64 0, .slice none 0 0, .slice none 0 0, .bool false] 42)) := (Below.refl _ _).alloc (Nat.le_refl _) _
  have hres0 := heap_alloc_new w (.cells #[.int .i64 0, .slice none 0 0, .slice none 0 0, .bool false] 42)
  have p1 := rwords_any s (w.alloc (.cells #[.int .i64 0, .slice none 0 0, .slice none 0 0, .bool false] 42)) (by omega)
  have HRL := Lib.hid (ruleR_eq s.data.toList)
  have hf0 : 0 < (wordsL s.data.toList).length := List.length_pos_iff.2 (words_ne _)
  have hfl : (wordsL s.data.toList).length ≤ 20001 := by have := words_len s.data.toList; rw [← Lib.size_eq] at this; omega
  have HFM : Hid (∀ x ∈ wordsL s.data.toList, x.length ≤ 20000) := fun x hx => by have := words_mem s.data.toList x hx; rw [← Lib.size_eq] at this; omega
  generalize wordsL s.data.toList = f at *
  go_enter Tryz.func70, Tryz.ntmps70
  go_wp2_with fail
  refine p1.mono ?_
  rintro e W1 ⟨v1, rfl, own1, b1⟩
  clear p1
  have own1' : W1.ownsRow (w.alloc (.cells #[.int .i64 0, .slice none 0 0, .slice none 0 0, .bool false] 42)).heap.size 9 1 v1 f.length (f.map S) := by
    have h := own1
    unfold Own at h
    rwa [List.length_map] at h
  obtain ⟨g, cf, rfl, hg1, hg2⟩ := own1'.form hf0
  have hrow : RowAt W1 (some ⟨g, 0, none⟩) (f.map S) := by obtain ⟨A, c, e, _, h⟩ := own_sl own1'; cases e; exact h
  have hcf : f.length ≤ cf := by obtain ⟨A, c, e, h, _⟩ := own_sl own1'; cases e; exact h
  have hcm : cf ≤ 9223372036854775807 := by
    rcases own1'.2 with ⟨e, _⟩ | ⟨_, _, _, e, _, _, _, h, _⟩
    · cases e
    · cases e; unfold maxLen at h; omega
  have bW1 := bstep b0 b1
  have hres1 := (b1.block w.heap.size (by simp)).trans hres0
  have hgw : w.heap.size < g := by simp at hg1; omega
  have HR := Lib.hid hrow
  have HRES := Lib.hid hres1
  have k0 : W1.cell? ⟨g, 0, none⟩ = some (S f[0]) := by
    have := own1'.cellAt 0 (by omega)
    rw [this, List.getElem?_map, List.getElem?_eq_getElem hf0]; rfl
  have hh : f.headD [] = f[0] := by cases f with | nil => simp at hf0 | cons x r => rfl
  obtain ⟨X, hX⟩ : ∃ X : ByteArray, (⟨f[0].toArray⟩ : ByteArray) = X := ⟨_, rfl⟩
  have hXd : f.headD [] = X.data.toList := by rw [hh, ← hX]
  have hXs : X.size ≤ 20000 := by rw [← hX, Lib.size_eq]; exact HFM.out _ (List.getElem_mem _)
  unfold S at k0
  rw [hX] at k0
  rw [hXd] at HRL
  have c82 := first_is X 82 (by decide)
  have c33 := last_is X 33
  rw [show (((82 : UInt8).toNat : Nat) : Int) = 82 from rfl] at c82
  rw [show (((33 : UInt8).toNat : Nat) : Int) = 33 from rfl] at c33
  obtain ⟨opv, hopv⟩ : ∃ opv : Int, (if X.data.toList.headD 0 = 82 then 2 else 1) = opv := ⟨_, rfl⟩
  obtain ⟨qu, hqu⟩ : ∃ qu : Bool, decide (X.data.toList.getLast? = some 33) = qu := ⟨_, rfl⟩
  rw [hopv, hqu] at HRL
  rw [hqu] at c33
  obtain ⟨qR, hqR⟩ : ∃ qR : Bool, decide (X.data.toList.headD 0 = 82) = qR := ⟨_, rfl⟩
  rw [hqR] at c82
  have HOP : Hid ((if qR = true then 2 else 1) = opv) := by rw [Hid, ← hopv, ← hqR]; simp
  have n0 : (0 : Int) < (f.length : Int) := by omega
  clear hopv hqu hqR hXd hX hh own1 own1' hrow b0 b1 hres0 hres1
  generalize ruleR s.data.toList = RR at *
  go_upto_region 3 with fail
  go_cut [23] (fun s23 wx => s23 = .bool qR ∧ wx = W1.alloc (.cells #[.int .i64 1, .slice none 0 0, .slice none 0 0, .bool false] 42))
  case first =>
    rcases c82 with ⟨z, hq⟩ | ⟨z, hq⟩
    · have d0 : decide ((0 : Int) < (X.size : Int)) = false := decide_eq_false (by omega)
      subst hq
      go_wp2_with fail
      go_meet
      exact ⟨rfl, rfl⟩
    · have d0 : (0 : Int) < (X.size : Int) := by omega
      go_wp2_with fail
      go_meet
      exact ⟨rfl, rfl⟩
  case rest =>
    obtain ⟨rfl, rfl⟩ := hcut
    clear c82
    go_upto_if 23 with fail
    go_cut [] (fun wx => wx = W1.alloc (.cells #[.int .i64 opv, .slice none 0 0, .slice none 0 0, .bool false] 42))
    case first =>
      have h := HOP.out
      cases qR with
      | true =>
        rw [if_pos rfl] at h
        subst h
        go_wp2_with fail
        go_meet
        rfl
      | false =>
        rw [if_neg (by decide)] at h
        subst h
        go_wp2_with fail
        go_meet
        rfl
    case rest =>
      obtain rfl := hcut
      go_upto_region 5 with fail
      go_cut [] (fun wx => wx = (W1.alloc (.cells #[.int .i64 opv, .slice none 0 0, .slice none 0 0, .bool qu] 42)).drew)
      case first =>
        rcases c33 with ⟨z, hq⟩ | ⟨m, z, z2, hq⟩
        · have d0 : decide ((0 : Int) < (X.size : Int)) = false := decide_eq_false (by omega)
          subst hq
          go_region
          all_goals (go_wp2_with fail; go_meet; rfl)
        · have d0 : (0 : Int) < (X.size : Int) := by omega
          have w3 : m ≤ 1000000 := by omega
          have w4 := wrapM m (by omega)
          have w5 : (m : Int) < (m : Int) + 1 := by omega
          have w6 : (0 : Int) ≤ (m : Int) := by omega
          go_region
          all_goals (go_wp2_with fail; go_meet; rfl)
      case rest =>
        obtain rfl := hcut
        clear c33 HOP
        obtain ⟨W2, hW2⟩ : ∃ W2, (W1.alloc (.cells #[.int .i64 opv, .slice none 0 0, .slice none 0 0, .bool qu] 42)).drew = W2 := ⟨_, rfl⟩
        rw [hW2]
        have bN : Below W1.heap.size W1 W2 := by rw [← hW2]; exact ((Below.refl _ _).alloc (Nat.le_refl _) _).drew
        have hz2 : W2.heap.size = W1.heap.size + 1 := by rw [← hW2]; simp
        have hrl : W2.heap[W1.heap.size]? = some (.cells #[.int .i64 opv, .slice none 0 0, .slice none 0 0, .bool qu] 42 (0, 0)) := by rw [← hW2]; exact heap_alloc_new W1 _
        have HZ2 := Lib.hid hz2
        have HRLC := Lib.hid hrl
        clear hW2 hz2 hrl k0
        go_wp2_with fail
        go_loopw [5] (fun i wr => W2 = wr ∧ ∃ (k : Nat), i = .int .i64 k ∧ 1 ≤ k ∧ k ≤ f.length ∧ Hid (opensAt (f.drop 1) = opensAt (f.drop k) + (k - 1))) (fun i _ => f.length - (intOf i).toNat)
        case atStart => exact ⟨rfl, 1, rfl, by omega, by omega, by rw [Hid]; rfl⟩
        case round =>
          obtain ⟨hw, k, rfl, hk1, hkl, H⟩ := hrel
          subst hw
          have k0 : (0 : Int) ≤ (k : Int) := by omega
          obtain ⟨q, hq⟩ : ∃ q : Bool, (if h : k < f.length then !(opens f[k]) else false) = q := ⟨_, rfl⟩
          go_upto_region 7 with fail
          go_cut [54] from 43 to 56 (fun v wx => v = .bool q ∧ W2 = wx)
          case first =>
            by_cases hlt : k < f.length
            · rw [dif_pos hlt] at hq
              have k1 : (k : Int) < (f.length : Int) := by omega
              have kc : W2.cell? ⟨g, 0 + k, none⟩ = some (.string ⟨f[k].toArray⟩) := (bN.cell (p := ⟨g, 0 + k, none⟩) hg2).trans (by obtain ⟨b', o', e, h1, h2⟩ := HR.out (by intro e; rw [List.map_eq_nil_iff] at e; rw [e] at hlt; simp at hlt); cases e; exact h2 k _ (getS hlt))
              rw [Nat.zero_add] at kc
              have p2 := ropens_any ⟨f[k].toArray⟩ W2
              have e2 : (⟨f[k].toArray⟩ : ByteArray).data.toList = f[k] := rfl
              rw [e2] at p2
              clear e2 H
              generalize f[k] = y at *
              go_wp2_with fail
              refine p2.mono ?_
              rintro e w' ⟨rfl, rfl⟩
              go_wp2_with fail
              go_meet
              exact ⟨by rw [← hq], rfl⟩
            · rw [dif_neg hlt] at hq
              have k1 : decide ((k : Int) < (f.length : Int)) = false := decide_eq_false (by omega)
              subst hq
              go_wp2_with fail
              go_meet
              exact ⟨rfl, rfl⟩
          case rest =>
            obtain ⟨rfl, hw⟩ := hcut
            subst hw
            cases q with
            | true =>
              have hlt : k < f.length := by
                by_cases h : k < f.length
                · exact h
                · rw [dif_neg h] at hq; cases hq
              rw [dif_pos hlt] at hq
              have HX : Hid (opensAt (f.drop 1) = opensAt (f.drop (k + 1)) + (k + 1 - 1)) := by rw [Hid, H.out, opensAt_skip1 hlt (by simpa using hq)]; omega
              clear hq
              go_wp2_with fail
              go_roundw
              case rel => exact ⟨trivial, k + 1, by go_num, by omega, by omega, HX⟩
              case measure => simp [intOf]; omega
            | false =>
              have HX : Hid (opensAt (f.drop 1) = k - 1) := by
                rw [Hid, H.out]
                by_cases h : k < f.length
                · rw [dif_pos h] at hq
                  rw [opensAt_found h (by simpa using hq)]; omega
                · rw [List.drop_eq_nil_of_le (by omega)]; show 0 + _ = _; omega
              clear hq H
              have P1a : Hid (cf = 1 → Calls Tryz.prog 68 #[.slice (some ⟨g, 0, none⟩) (k - 1) 0] W2 fun e w' => ∃ v, e = .returned v ∧ Own W2.heap.size 9 v ((namesR ((f.drop 1).take (k - 1))).map S) w' ∧ Below W2.heap.size W2 w') := by
                intro hck
                rw [show k - 1 = 0 by omega, List.take_zero]
                exact rnames_any (some ⟨g, 0, none⟩) 0 [] W2 (RowAt.nil _ _) (by simp) (by simp)
              have P1b := Lib.hid (names_part (k := 1) (n := k - 1) (c' := cf - 1) HR.out (fun x hx => by have := HFM.out x hx; omega) (by omega) bN (by omega))
              rw [Nat.zero_add] at P1b
              go_upto_region 9 with fail
              go_cut [] from 57 to 61 (fun wx => ∃ A N d, wx.heap[W1.heap.size]? = some (.cells #[.int .i64 opv, .slice A N d, .slice none 0 0, .bool qu] 42 (0, 0)) ∧ Hid (Own W2.heap.size 9 (.slice A N d) ((namesR ((f.drop 1).take (k - 1))).map S) wx) ∧ Below W1.heap.size W1 wx ∧ W2.heap.size ≤ wx.heap.size)
              case first =>
                by_cases hcc : cf = 1
                · subst hcc
                  have P1c := Lib.hid (P1a.out rfl)
                  clear P1a
                  go_wp2_with fail
                  refine P1c.out.mono ?_
                  rintro e W3 ⟨vT, rfl, ownT, b3⟩
                  obtain ⟨N1, hN1⟩ : ∃ N, (List.map S (namesR ((f.drop 1).take (k - 1)))).length = N := ⟨_, rfl⟩
                  obtain ⟨A1, d1, rfl, hd1, _⟩ := ownT.row.to hN1
                  clear hN1
                  have hz := HZ2.out
                  have h2 := (b3.block W1.heap.size (by omega)).trans HRLC.out
                  have q1 := cell_of_row W3 W1.heap.size 1 _ _ (0, 0) h2
                  have f1 := fzB h2 1
                  simp at q1
                  have bW3 := bstep bN b3
                  have O1 := Lib.hid ownT
                  have H2 := Lib.hid h2
                  have B3 := Lib.hid b3
                  clear h2 ownT hz b3
                  go_wp2_with fail
                  go_meet
                  refine ⟨A1, N1, d1, heap_setCell_same W3 W1.heap.size 1 _ _ _ H2.out, ?_, bW3.setCell (p := ⟨W1.heap.size, 1, none⟩) (Nat.le_refl _) _, by rw [World.size_setCell]; exact B3.out.size⟩
                  exact own_last (X := fun b => b = W1.heap.size) O1.out (Nat.le_refl _) (Chg.set (X := fun b => b = W1.heap.size) (Chg.refl _ W3) rfl _) (fun b hb => by rw [HZ2.out]; omega)
                · have hcd : decide (cf = 1) = false := decide_eq_false hcc
                  go_wp2_with fail
                  refine P1b.out.mono ?_
                  rintro e W3 ⟨vT, rfl, ownT, b3⟩
                  obtain ⟨N1, hN1⟩ : ∃ N, (List.map S (namesR ((f.drop 1).take (k - 1)))).length = N := ⟨_, rfl⟩
                  obtain ⟨A1, d1, rfl, hd1, _⟩ := ownT.row.to hN1
                  clear hN1
                  have hz := HZ2.out
                  have h2 := (b3.block W1.heap.size (by omega)).trans HRLC.out
                  have q1 := cell_of_row W3 W1.heap.size 1 _ _ (0, 0) h2
                  have f1 := fzB h2 1
                  simp at q1
                  have bW3 := bstep bN b3
                  have O1 := Lib.hid ownT
                  have H2 := Lib.hid h2
                  have B3 := Lib.hid b3
                  clear h2 ownT hz b3
                  go_wp2_with fail
                  go_meet
                  refine ⟨A1, N1, d1, heap_setCell_same W3 W1.heap.size 1 _ _ _ H2.out, ?_, bW3.setCell (p := ⟨W1.heap.size, 1, none⟩) (Nat.le_refl _) _, by rw [World.size_setCell]; exact B3.out.size⟩
                  exact own_last (X := fun b => b = W1.heap.size) O1.out (Nat.le_refl _) (Chg.set (X := fun b => b = W1.heap.size) (Chg.refl _ W3) rfl _) (fun b hb => by rw [HZ2.out]; omega)
              case rest =>
                obtain ⟨AT, NT, dT, hBc, HOT, bW4, hz4⟩ := hcut
                obtain ⟨W4, hW4⟩ : ∃ W4, W4 = wc := ⟨_, rfl⟩
                subst hW4
                have HBC := Lib.hid hBc
                have HZ4 := Lib.hid hz4
                clear hBc hz4 P1a P1b
                go_wp2_with fail
                go_loopw [5, 6, 7, 8] (fun i _ _ _ wr => ∃ (k2 : Nat) (ts : List Tst) (vX : Value), i = .int .i64 k2 ∧ k2 ≤ f.length ∧ ts.length ≤ k2 ∧ Hid (wr.heap[W1.heap.size]? = some (.cells #[.int .i64 opv, .slice AT NT dT, vX, .bool qu] 42 (0, 0))) ∧ Hid (TLst W4.heap.size wr vX ts) ∧ Chg (fun b => b = W1.heap.size ∨ W4.heap.size ≤ b) W4 wr ∧
                  Hid (testsR f.length (f.drop 1 |>.drop (opensAt (f.drop 1))) = (testsR f.length (f.drop k2)).map (ts ++ ·))) (fun i _ _ _ _ => f.length - (intOf i).toNat)
                case atStart =>
                  refine ⟨k, [], .slice none 0 0, rfl, by omega, by simp, HBC, RowL.nil _ _ rfl, Chg.refl _ _, ?_⟩
                  rw [Hid, HX.out, List.drop_drop, show 1 + (k - 1) = k by omega]
                  cases testsR f.length (f.drop k) <;> rfl
                case round =>
                  obtain ⟨k2, ts, vX, rfl, hk2, htl, HB, HTS, hch, HREL⟩ := hrel
                  have k20 : (0 : Int) ≤ (k2 : Int) := by omega
                  obtain ⟨W5, hW5⟩ : ∃ W5, W5 = wr := ⟨_, rfl⟩
                  subst hW5
                  have HF5 : Hid (∀ j (h : j < f.length), W5.cell? ⟨g, j, none⟩ = some (.string ⟨f[j].toArray⟩)) := by
                    intro j h
                    obtain ⟨b', o', e, h1, h2⟩ := HR.out (by intro e; rw [List.map_eq_nil_iff] at e; rw [e] at h; simp at h)
                    cases e
                    have h3 := h2 j _ (getS h)
                    rw [Nat.zero_add] at h3
                    have h4 : W4.heap[g]? = W1.heap[g]? := bW4.block g hg2
                    exact (cell_same ((hch.block g (by have := bW4.size; omega) (by have := bW4.size; omega)).trans h4)).trans h3
                  have HR5 : Hid (W5.heap[w.heap.size]? = some (.cells #[.int .i64 0, .slice none 0 0, .slice none 0 0, .bool false] 42 (0, 0))) :=
                    (hch.block w.heap.size (by have := bW4.size; have := bW1.size; omega) (by have := bW4.size; omega)).trans ((bW4.block w.heap.size (by omega)).trans HRES.out)
                  have BW5 : Hid (Below w.heap.size w W5) := (bstep bW1 bW4).trans ((hch.mono (Y := fun b => w.heap.size ≤ b) (fun b _ e => by have := bW4.size; omega)).below (by have := bW4.size; omega))
                  by_cases hlt2 : k2 < f.length
                  · have k21 : (k2 : Int) < (f.length : Int) := by omega
                    go_wp2_with fail
                    go_loopw [5] (fun i wr => W5 = wr ∧ ∃ (j : Nat), i = .int .i64 j ∧ k2 ≤ j ∧ j ≤ f.length ∧ Hid (closesAt (f.drop k2) = closesAt (f.drop j) + (j - k2))) (fun i _ => f.length - (intOf i).toNat)
                    case atStart => exact ⟨rfl, k2, rfl, by omega, by omega, by rw [Hid]; omega⟩
                    case round =>
                      obtain ⟨hw, j, rfl, hj1, hj2, HJ⟩ := hrel
                      subst hw
                      have j0 : (0 : Int) ≤ (j : Int) := by omega
                      obtain ⟨q, hq⟩ : ∃ q : Bool, (if h : j < f.length then !(closes f[j]) else false) = q := ⟨_, rfl⟩
                      go_upto_region 12 with fail
                      go_cut [78] from 67 to 80 (fun v wx => v = .bool q ∧ W5 = wx)
                      case first =>
                        by_cases hlt : j < f.length
                        · rw [dif_pos hlt] at hq
                          have j1 : (j : Int) < (f.length : Int) := by omega
                          have kc := HF5.out j hlt
                          have p2 := rcloses_any ⟨f[j].toArray⟩ W5 (by rw [Lib.size_eq]; have := HFM.out f[j] (List.getElem_mem _); show f[j].length ≤ _; omega)
                          have e2 : (⟨f[j].toArray⟩ : ByteArray).data.toList = f[j] := rfl
                          rw [e2] at p2
                          clear e2 HJ
                          generalize f[j] = y at *
                          go_wp2_with fail
                          refine p2.mono ?_
                          rintro e w' ⟨rfl, rfl⟩
                          go_wp2_with fail
                          go_meet
                          exact ⟨by rw [← hq], rfl⟩
                        · rw [dif_neg hlt] at hq
                          have j1 : decide ((j : Int) < (f.length : Int)) = false := decide_eq_false (by omega)
                          subst hq
                          go_wp2_with fail
                          go_meet
                          exact ⟨rfl, rfl⟩
                      case rest =>
                        obtain ⟨rfl, hw⟩ := hcut
                        subst hw
                        cases q with
                        | true =>
                          have hlt : j < f.length := by
                            by_cases h : j < f.length
                            · exact h
                            · rw [dif_neg h] at hq; cases hq
                          rw [dif_pos hlt] at hq
                          have HX2 : Hid (closesAt (f.drop k2) = closesAt (f.drop (j + 1)) + (j + 1 - k2)) := by rw [Hid, HJ.out, closesAt_skip1 hlt (by simpa using hq)]; omega
                          clear hq
                          go_wp2_with fail
                          go_roundw
                          case rel => exact ⟨trivial, j + 1, by go_num, by omega, by omega, HX2⟩
                          case measure => simp [intOf]; omega
                        | false =>
                          have HX2 : Hid (closesAt (f.drop k2) = j - k2) := by
                            rw [Hid, HJ.out]
                            by_cases h : j < f.length
                            · rw [dif_pos h] at hq
                              rw [closesAt_found h (by simpa using hq)]; omega
                            · rw [List.drop_eq_nil_of_le (by omega)]; show 0 + _ = _; omega
                          have HCL : Hid (∀ h : j < f.length, closes f[j] = true) := fun h => by
                            rw [dif_pos h] at hq; simpa using hq
                          clear hq HJ
                          obtain ⟨q3, hq3⟩ : ∃ q3 : Bool, (if j < f.length then !(opens f[k2]) else true) = q3 := ⟨_, rfl⟩
                          go_upto_region 14 with fail
                          go_cut [92] from 62 to 138 (fun v wx => v = .bool q3 ∧ W5 = wx)
                          case first =>
                            by_cases hlt : j < f.length
                            · rw [if_pos hlt] at hq3
                              have j1 : ((j : Int) == (f.length : Int)) = false := by rw [beq_eq_false_iff_ne]; omega
                              have kc := HF5.out k2 hlt2
                              have p2 := ropens_any ⟨f[k2].toArray⟩ W5
                              have e2 : (⟨f[k2].toArray⟩ : ByteArray).data.toList = f[k2] := rfl
                              rw [e2] at p2
                              clear e2
                              generalize f[k2] = y at *
                              go_wp2_with fail
                              refine p2.mono ?_
                              rintro e w' ⟨rfl, rfl⟩
                              go_wp2_with fail
                              go_meet
                              exact ⟨by rw [← hq3], rfl⟩
                            · rw [if_neg hlt] at hq3
                              have j1 : ((j : Int) == (f.length : Int)) = true := by rw [beq_iff_eq]; omega
                              subst hq3
                              go_wp2_with fail
                              go_meet
                              exact ⟨rfl, rfl⟩
                          case rest =>
                            obtain ⟨rfl, hw⟩ := hcut
                            subst hw
                            cases q3 with
                            | true =>
                              have hbad : j = f.length ∨ opens f[k2] = false := by
                                by_cases h : j < f.length
                                · rw [if_pos h] at hq3; right; simpa using hq3
                                · left; omega
                              have HRR : Hid (RR = zeroR) := by rw [Hid, HRL.out, testsR_bad hlt2 hj1 HX2.out hbad HREL.out]
                              have hr5 := HR5.out
                              have c0 := cell_of_row W5 w.heap.size 0 _ _ (0, 0) hr5
                              have c1 := cell_of_row W5 w.heap.size 1 _ _ (0, 0) hr5
                              have c2 := cell_of_row W5 w.heap.size 2 _ _ (0, 0) hr5
                              have c3 := cell_of_row W5 w.heap.size 3 _ _ (0, 0) hr5
                              have fr0 := fzB hr5 0
                              have fr1 := fzB hr5 1
                              have fr2 := fzB hr5 2
                              have fr3 := fzB hr5 3
                              simp at c0 c1 c2 c3
                              clear hq3 hbad hr5
                              go_upto_region 15 with fail
                              go_cut [] from 62 to 138 (fun wx => (wx.cell? ⟨w.heap.size, 0, none⟩ = some (.int .i64 0) ∧ wx.cell? ⟨w.heap.size, 1, none⟩ = some (.slice none 0 0) ∧ wx.cell? ⟨w.heap.size, 2, none⟩ = some (.slice none 0 0) ∧ wx.cell? ⟨w.heap.size, 3, none⟩ = some (.bool false)) ∧ Below w.heap.size w wx)
                              case first =>
                                go_wp2_with fail
                                go_meet
                                refine ⟨⟨?_, ?_, ?_, ?_⟩, ?_⟩
                                · simp [go_sem, c0]
                                · simp [go_sem, c1]
                                · simp [go_sem, c2]
                                · simp [go_sem, c3]
                                · repeat (refine Below.setCell ?_ (by simp) _)
                                  exact BW5.out
                              case rest =>
                                rename_i hret
                                refine hret _ _ (wp_ret ?_)
                                change bodyPost Tryz.prog Tryz.f70 (RulPostR w RR) .ret _ _
                                obtain ⟨⟨g0, g1, g2, g3⟩, hbel⟩ := hcut
                                refine bodyPost_ret (by simp [results, Tryz.results70, go_sem, g0, g1, g2, g3]; try rfl) rfl ?_
                                unfold RulPostR
                                rw [HRR.out]
                                exact ⟨.slice none 0 0, .slice none 0 0, rfl, fun W _ _ => ⟨Sl.nil W, [], Sl.nil W, trivial⟩, hbel⟩
                            | false =>
                              have hgood : j < f.length ∧ opens f[k2] = true := by
                                by_cases h : j < f.length
                                · rw [if_pos h] at hq3; exact ⟨h, by simpa using hq3⟩
                                · rw [if_neg h] at hq3; cases hq3
                              obtain ⟨hjl, hop⟩ := hgood
                              have HN := Lib.hid (testsR_good hlt2 hj1 hjl HX2.out hop HREL.out)
                              obtain ⟨n1, hn1⟩ : ∃ n1, n1 = j - k2 := ⟨_, rfl⟩
                              have hjk : j + 1 - k2 = n1 + 1 := by omega
                              have hPl : (partR f k2 j).length = n1 + 1 := by unfold partR; rw [List.length_take, List.length_drop]; omega
                              have HP0 : Hid (∀ h : 0 < (partR f k2 j).length, (partR f k2 j)[0] = f[k2]) := fun h => partR_get h (by omega)
                              have hown6 : (W5.alloc (.cells #[] 9)).ownsRow W5.heap.size 9 1 (.slice (some ⟨W5.heap.size, 0, none⟩) 0 0) 0 [] := World.ownsRow_lit W5 #[] 0 (Nat.le_refl _) (by unfold maxLen; omega) rfl
                              have hg5 : g < W5.heap.size := by have := bW4.size; have := hch.size; omega
                              have hnews : ∀ jj u, ((partR f k2 j).map S)[jj]? = some u → (W5.alloc (.cells #[] 9)).cell? ((⟨g, k2, none⟩ : Addr).add jj) = some u := by
                                intro jj u hu
                                rw [addr_add0k]
                                have hjj : jj < n1 + 1 := by
                                  have := (List.getElem?_eq_some_iff.1 hu).1
                                  rw [List.length_map] at this; omega
                                have hkj : k2 + jj < f.length := by omega
                                rw [List.getElem?_map, List.getElem?_eq_getElem (by omega)] at hu
                                simp only [Option.map_some, Option.some.injEq] at hu
                                have e1 : (partR f k2 j)[jj]'(by omega) = f[k2 + jj] := partR_get _ hkj
                                rw [e1] at hu
                                rw [← hu]
                                exact (((Below.refl W5.heap.size W5).alloc (Nat.le_refl _) _).cell (p := ⟨g, k2 + jj, none⟩) hg5).trans (HF5.out (k2 + jj) hkj)
                              have hn1l : n1 ≤ 20001 := by omega
                              have h63 : 0 + (n1 + 1) ≤ maxLen := by unfold maxLen; omega
                              have hby : (0 + (n1 + 1)) * 16 ≤ 140737488355328 := by omega
                              have hb6 : W5.heap.size ≤ (W5.alloc (.cells #[] 9)).heap.size := by simp
                              have hnl : ((partR f k2 j).map S).length = (n1 + 1) * 1 := by rw [List.length_map]; omega
                              have hone : ∀ u ∈ (partR f k2 j).map S, u.oneCell' = true := fun u hu => by obtain ⟨x, _, rfl⟩ := List.mem_map.1 hu; rfl
                              have t1 : (k2 : Int) ≤ (j : Int) + 1 := by omega
                              have t2 : (j : Int) + 1 ≤ (cf : Int) := by omega
                              have t3 : ¬ (cf = k2) := by omega
                              have HPL := Lib.hid hPl
                              clear hq3 hPl HX2 HREL
                              go_upto_region 16 with fail
                              go_cut [7] from 62 to 138 (fun v wx => ∃ gp cap, v = .slice (some ⟨gp, 0, none⟩) (n1 + 1) cap ∧ Hid (wx.ownsRow W5.heap.size 9 1 (.slice (some ⟨gp, 0, none⟩) (n1 + 1) cap) (n1 + 1) ((partR f k2 j).map S)) ∧ Hid (Below W5.heap.size W5 wx))
                              case first =>
                                go_wp2_with (at_builtin; refine wpList_append_lies _ rfl (.tmp 94) (.tmp 99) 31 rfl W5.heap.size 9 i0 _ 1 16 Tryz.underlying31 hi hz0 hz1 hz2 rfl (by decide) _ 0 [] rfl hown6 ⟨g, k2, none⟩ (n1 + 1) (cf - k2) ((partR f k2 j).map S) (by simp [Act.eval]; omega) hnl hnews hone (by omega) h63 hby hb6 (W5.heap.size + 1) (by simp) ?_; intro g2 cap w5 hown5 hgr5 hat5 hlt5)
                                go_meet
                                refine ⟨g2, cap, ?_, ?_, ?_⟩
                                · simp; omega
                                · rw [Nat.zero_add, List.nil_append] at hown5; exact hown5
                                · exact ((Below.refl W5.heap.size W5).alloc (Nat.le_refl _) _).grown hgr5 hb6 (fun g' hg' => (hown6.lt g' hg').1)
                              case rest =>
                                obtain ⟨gp, cap, rfl, HO7, HB7⟩ := hcut
                                obtain ⟨W7, hW7⟩ : ∃ W7, W7 = wc := ⟨_, rfl⟩
                                subst hW7
                                obtain ⟨Y, hY⟩ : ∃ Y : ByteArray, (⟨f[k2].toArray⟩ : ByteArray) = Y := ⟨_, rfl⟩
                                have hYd : f[k2] = Y.data.toList := by rw [← hY]
                                have hYs : 0 < Y.size := by
                                  rw [Lib.size_eq, ← hYd]
                                  cases hf : f[k2] with
                                  | nil => rw [hf] at hop; cases hop
                                  | cons x r => simp
                                have c0 : W7.cell? ⟨gp, 0, none⟩ = some (.string Y) := by
                                  rw [HO7.out.cellAt 0 (by omega), List.getElem?_map, List.getElem?_eq_getElem (by rw [HPL.out]; omega), HP0.out (by rw [HPL.out]; omega)]
                                  show some (S f[k2]) = _
                                  unfold S
                                  rw [hY]
                                have z0 := HO7.out.frozenAt 0
                                have y1 : (1 : Int) ≤ (Y.size : Int) := by omega
                                have HV : Hid ((.string (Y.extract 1 Y.size) : Value) = S f[k2].tail) := by
                                  rw [Hid, hYd, ← S_data, ext_data, List.take_of_length_le (by rw [List.length_drop, ← Lib.size_eq]; omega), List.drop_one]
                                obtain ⟨P2, hP2⟩ : ∃ P2, P2 = f[k2].tail :: (partR f k2 j).tail := ⟨_, rfl⟩
                                have HSET : Hid (((partR f k2 j).map S).set 0 (S f[k2].tail) = P2.map S) := by
                                  rw [Hid, hP2]
                                  have hl := HPL.out
                                  cases hp : partR f k2 j with
                                  | nil => rw [hp] at hl; simp at hl
                                  | cons x r => rfl
                                have hP2l : P2.length = n1 + 1 := by rw [hP2, List.length_cons, List.length_tail, HPL.out]; omega
                                rw [← hP2] at HN
                                have hPne : ∀ h : n1 < P2.length, P2[n1]'h ≠ [] := by
                                  intro h
                                  simp only [hP2]
                                  exact last_ne hop (HCL.out hjl) hjl hjk (by omega) (HPL.out)
                                have HPNE := Lib.hid hPne
                                have HPS : Hid (∀ x ∈ P2, x.length ≤ 20000) := fun x hx => by
                                  rw [hP2] at hx
                                  rcases List.mem_cons.1 hx with rfl | hx
                                  · have := HFM.out f[k2] (List.getElem_mem _); rw [List.length_tail]; omega
                                  · exact HFM.out x (List.mem_of_mem_drop (List.mem_of_mem_take (List.mem_of_mem_tail hx)))
                                clear hPne
                                have HP2L := Lib.hid hP2l
                                clear hP2 hP2l hown6 hnews hnl hone hby h63 hb6 t1 t2 t3 hn1 hjk
                                go_upto_region 17 with fail
                                go_cut [] from 62 to 138 (fun wx => Hid (wx.ownsRow W5.heap.size 9 1 (.slice (some ⟨gp, 0, none⟩) (n1 + 1) cap) (n1 + 1) (P2.map S)) ∧ Hid (Below W5.heap.size W5 wx))
                                case first =>
                                  go_wp2_with fail
                                  go_meet
                                  have hw := (HO7.out.stored 0 (.string (Y.extract 1 Y.size))).1
                                  rw [HV.out, HSET.out] at hw
                                  rw [HV.out]
                                  exact ⟨hw, HB7.out.setCell (p := ⟨gp, 0, none⟩) ((HO7.out.lt gp rfl).1) _⟩
                                case rest =>
                                  obtain ⟨HO8, HB8⟩ := hcut
                                  obtain ⟨W8, hW8⟩ : ∃ W8, W8 = wc := ⟨_, rfl⟩
                                  subst hW8
                                  obtain ⟨Z, hZ⟩ : ∃ Z : ByteArray, (⟨(P2[n1]'(by rw [HP2L.out]; omega)).toArray⟩ : ByteArray) = Z := ⟨_, rfl⟩
                                  have hZd : P2[n1]'(by rw [HP2L.out]; omega) = Z.data.toList := by rw [← hZ]
                                  obtain ⟨zz, hzz⟩ : ∃ zz, Z.size = zz + 1 := by
                                    have : 0 < Z.data.toList.length := by rw [← hZd]; exact List.length_pos_iff.2 (HPNE.out _)
                                    rw [← Lib.size_eq] at this
                                    exact ⟨Z.size - 1, by omega⟩
                                  have hzb : zz ≤ 1000000 := by
                                    have h1 := HPS.out (P2[n1]'(by rw [HP2L.out]; omega)) (List.getElem_mem _)
                                    rw [hZd, ← Lib.size_eq] at h1
                                    omega
                                  have cn : W8.cell? ⟨gp, n1, none⟩ = some (.string Z) := by
                                    rw [HO8.out.cellAt n1 (by omega), List.getElem?_map, List.getElem?_eq_getElem (by rw [HP2L.out]; omega)]
                                    show some (S (P2[n1]'_)) = _
                                    unfold S
                                    rw [hZ]
                                  have zn := HO8.out.frozenAt n1
                                  have HV2 : Hid ((.string (Z.extract 0 zz) : Value) = S (P2[n1]'(by rw [HP2L.out]; omega)).dropLast) := by
                                    rw [Hid, hZd, ← S_data, ext_data, List.drop_zero, List.dropLast_eq_take, ← Lib.size_eq, hzz]; rfl
                                  have HSET2 : Hid ((P2.map S).set n1 (S (P2[n1]'(by rw [HP2L.out]; omega)).dropLast) = (stripLast P2).map S) := by
                                    rw [Hid, stripLast_set HP2L.out, List.map_set]
                                  have q1 : (n1 : Int) < (n1 : Int) + 1 := by omega
                                  have q2 : (0 : Int) ≤ (n1 : Int) := by omega
                                  have q3 : (zz : Int) ≤ (zz : Int) + 1 := by omega
                                  have q4 : (0 : Int) < (zz : Int) + 1 := by omega
                                  have q5 := wrapM zz (by omega)
                                  clear hZ hZd
                                  go_upto_region 20 with fail
                                  go_cut [] from 62 to 138 (fun wx => Hid (wx.ownsRow W5.heap.size 9 1 (.slice (some ⟨gp, 0, none⟩) (n1 + 1) cap) (n1 + 1) ((stripLast P2).map S)) ∧ Hid (Below W5.heap.size W5 wx))
                                  case first =>
                                    go_region
                                    all_goals go_wp2_with fail
                                    all_goals go_meet
                                    all_goals
                                      have hw := (HO8.out.stored n1 (.string (Z.extract 0 zz))).1
                                      rw [HV2.out, HSET2.out] at hw
                                      rw [HV2.out]
                                      exact ⟨hw, (HB8.out.setCell (p := ⟨gp, n1, none⟩) ((HO8.out.lt gp rfl).1) _).drew⟩
                                  case rest =>
                                    obtain ⟨HO9, HB9⟩ := hcut
                                    obtain ⟨W9, hW9⟩ : ∃ W9, W9 = wc := ⟨_, rfl⟩
                                    subst hW9
                                    obtain ⟨tt, htt⟩ : ∃ tt, testR (stripLast P2) = tt := ⟨_, rfl⟩
                                    have hsl := strip_length HP2L.out
                                    obtain ⟨AX, NX, dX, rfl⟩ : ∃ A N d, vX = .slice A N d := by obtain ⟨A, d, e, _, _⟩ := HTS.out.form; exact ⟨A, _, d, e⟩
                                    obtain ⟨xs, e1, e2, e3⟩ := HTS.out.chg (Chg.of_new (X := fun _ => False) HB9.out) (fun _ _ e => e.elim)
                                    obtain rfl : NX = ts.length := by obtain ⟨A, d, e, _, _⟩ := own_sl e2; simp only [Value.slice.injEq] at e; exact e.2.1
                                    have hs4 := bW4.size
                                    have hs5 := hch.size
                                    have hs9 := HB9.out.size
                                    have hz2' := HZ2.out
                                    have hz4' := HZ4.out
                                    have hb9 : W9.heap[W1.heap.size]? = _ := (HB9.out.block W1.heap.size (by omega)).trans HB.out
                                    have p3 : Calls Tryz.prog 100 #[.slice (some ⟨gp, 0, none⟩) (n1 + 1) cap] W9.drew fun e w' => ∃ u, e = .returned u ∧ ∃ A1 N1 d1 A2 N2 d2, u = .agg #[.int .i64 tt.at_, .bool tt.scan, .bool tt.not_, .bool tt.careful, .slice A1 N1 d1, .slice A2 N2 d2] ∧
                                        Hid (w'.ownsRow W9.heap.size 9 1 (.slice A1 N1 d1) tt.tags.length (tt.tags.map S)) ∧ Hid (w'.ownsRow W9.heap.size 9 1 (.slice A2 N2 d2) tt.barrier.length (tt.barrier.map S)) ∧ Hid (Below W9.heap.size W9 w') := by
                                      exact rreadTest_own HO9.out hsl htt (by omega) (fun x hx => by have := strip_len HPS.out x hx; omega)
                                    have hent : ∀ args w, (callFunc 100 args).run Tryz.prog w = .ok (.enter 100 args) w := fun args w => enters_of Tryz.func100 (by kernel_rfl) rfl args w
                                    have KQ : Hid (∀ (wq : World) (tup : Array Value), Below W9.heap.size W9 wq → (wq.alloc (.cells tup 79)).ownsRow W4.heap.size 79 6 (.slice AX ts.length dX) ts.length (tstCells ts xs) ∧ W4.heap.size ≤ (wq.alloc (.cells tup 79)).heap.size) := fun wq tup hb =>
                                      ⟨own_chg e2 (Chg.of_new (X := fun _ => False) (hb.alloc hb.size _)) (fun _ _ e => e), by have := hb.size; rw [World.size_alloc]; omega⟩
                                    have k2c := cell_of_row W9 W1.heap.size 2 _ _ (0, 0) hb9
                                    simp at k2c
                                    have hB9 : W1.heap.size < W9.heap.size := by omega
                                    have E2 := Lib.hid e2
                                    have KK : Hid (∀ (wq w5 : World) (tup : Array Value), Below W9.heap.size W9 wq → (wq.alloc (.cells tup 79)).grownBy w5 (Value.slice AX ts.length dX).ownBlock → w5.heap[W1.heap.size]? = some (.cells #[.int .i64 opv, .slice AT NT dT, .slice AX ts.length dX, .bool qu] 42 (0, 0))) := fun wq w5 tup hb hg =>
                                      ((hg.block W1.heap.size (by have := hb.size; rw [World.size_alloc]; omega) (fun e => by have := (E2.out.lt _ e.symm).1; omega)).trans ((hb.alloc hb.size _).block W1.heap.size hB9)).trans hb9
                                    have h63 : ts.length + 1 ≤ maxLen := by unfold maxLen; omega
                                    have hby : (ts.length + 1) * 64 ≤ 140737488355328 := by omega
                                    have HB9' := Lib.hid hb9
                                    have HN2 := HN.out
                                    rw [htt] at HN2
                                    replace HN2 := Lib.hid HN2
                                    clear hb9 e2 hs4 hs5 hs9 hz2' hz4' hsl htt
                                    go_upto_region 21 with fail
                                    go_cut [] from 62 to 138 (fun wx => ∃ g2 cap2, Hid (wx.heap[W1.heap.size]? = some (.cells #[.int .i64 opv, .slice AT NT dT, .slice (some ⟨g2, 0, none⟩) (ts.length + 1) cap2, .bool qu] 42 (0, 0))) ∧ Hid (TLst W4.heap.size wx (.slice (some ⟨g2, 0, none⟩) (ts.length + 1) cap2) (ts ++ [tt])) ∧ Hid (Chg (fun b => b = W1.heap.size ∨ W4.heap.size ≤ b) W4 wx))
                                    case first =>
                                      go_region_law
                                        (first
                                          | (refine step_call (by rfl) 100 (.tmp 132) 31 (by rfl) hent _ (by rfl) p3 ?_; intro u wq hR; obtain ⟨A1, N1, d1, A2, N2, d2, rfl, HT1, HT2, HBq⟩ := hR; obtain ⟨hownQ, hbQ⟩ := KQ.out wq #[.int .i64 tt.at_, .bool tt.scan, .bool tt.not_, .bool tt.careful, .slice A1 N1 d1, .slice A2 N2 d2] HBq.out; have k2q := (HBq.out.cell (p := ⟨W1.heap.size, 2, none⟩) hB9).trans k2c; have k2r := ((HBq.out.alloc HBq.out.size (.cells #[.int .i64 tt.at_, .bool tt.scan, .bool tt.not_, .bool tt.careful, .slice A1 N1 d1, .slice A2 N2 d2] 79)).cell (p := ⟨W1.heap.size, 2, none⟩) hB9).trans k2c; have hnewsQ := World.news_of_block (heap_alloc_new wq (.cells #[.int .i64 tt.at_, .bool tt.scan, .bool tt.not_, .bool tt.careful, .slice A1 N1 d1, .slice A2 N2 d2] 79)))
                                          | (refine step_append_lies _ (by rfl) (.tmp 131) (.tmp 134) 40 (by rfl) W4.heap.size 79 it _ 6 64 Tryz.underlying40 ti tz0 tz1 tz2 (by rfl) (by decide) _ ts.length (tstCells ts xs) (by rfl) hownQ ⟨wq.heap.size, 0, none⟩ 1 1 [.int .i64 tt.at_, .bool tt.scan, .bool tt.not_, .bool tt.careful, .slice A1 N1 d1, .slice A2 N2 d2] (by rfl) rfl hnewsQ (by simp [Value.oneCell']) (by decide) h63 hby hbQ (wq.heap.size + 1) (by simp) ?_; intro g2 cap2 w5 hown6 hgr5 hat5 hlt5; have hb5 := KK.out wq w5 _ HBq.out hgr5; have k5 := cell_of_row w5 W1.heap.size 2 _ _ (0, 0) hb5; have f5 := fzB hb5 2; simp at k5))
                                      all_goals go_wp2_with fail
                                      all_goals
                                        go_meet
                                        have bQ := HBq.out.alloc HBq.out.size (.cells #[.int .i64 tt.at_, .bool tt.scan, .bool tt.not_, .bool tt.careful, .slice A1 N1 d1, .slice A2 N2 d2] 79)
                                        have hs4 := bW4.size
                                        have hs5 := hch.size
                                        have hs9 := HB9.out.size
                                        have hz2' := HZ2.out
                                        have hz4' := HZ4.out
                                        have f3 := e3.step (X' := fun b => b < W4.heap.size ∨ (Value.slice AX ts.length dX).ownBlock = some b) (Chg.of_new (X := fun _ => False) bQ) (fun _ _ e => e.elim) (fun _ _ e => e)
                                        have fp1 := own_firm (X := fun b => b < W4.heap.size ∨ (Value.slice AX ts.length dX).ownBlock = some b) (World.ownsRow.alloc HT1.out (.cells #[.int .i64 tt.at_, .bool tt.scan, .bool tt.not_, .bool tt.careful, .slice A1 N1 d1, .slice A2 N2 d2] 79)) (fun g' hg' hx => by
                                          have h1 := (HT1.out.lt g' hg').1
                                          rcases hx with hx | hx
                                          · omega
                                          · have := (E2.out.lt g' hx).2; omega)
                                        have fp2 := own_firm (X := fun b => b < W4.heap.size ∨ (Value.slice AX ts.length dX).ownBlock = some b) (World.ownsRow.alloc HT2.out (.cells #[.int .i64 tt.at_, .bool tt.scan, .bool tt.not_, .bool tt.careful, .slice A1 N1 d1, .slice A2 N2 d2] 79)) (fun g' hg' hx => by
                                          have h1 := (HT2.out.lt g' hg').1
                                          rcases hx with hx | hx
                                          · omega
                                          · have := (E2.out.lt g' hx).2; omega)
                                        have hadd := RowL.add (cells := tstCells) (R := TR) (p := (.slice A1 N1 d1, .slice A2 N2 d2)) (a := tt) e1 hownQ f3 (fp1.and fp2) (tstCells_snoc ts xs tt (.slice A1 N1 d1, .slice A2 N2 d2) e1) hown6 hgr5 (hat5.imp id fun e => by rw [e]; simp)
                                        have c5 := chg_setCell w5 W1.heap.size 2 (.slice (some ⟨g2, 0, none⟩) (ts.length + 1) cap2)
                                        have cA := hch.trans (Chg.of_new (X := fun _ => False) HB9.out) (fun _ _ e => e.elim)
                                        have cB := cA.trans (Chg.of_new (X := fun _ => False) bQ) (fun _ _ e => e.elim)
                                        have cC := cB.trans (Chg.of_grown hgr5) (fun b _ e => Or.inr (E2.out.lt b e).1)
                                        exact ⟨g2, cap2, heap_setCell_same w5 W1.heap.size 2 _ _ _ hb5, Lib.hid (hadd.chg c5 fun b _ e => by omega), Lib.hid (cC.trans c5 fun b _ e => Or.inl e)⟩
                                    case rest =>
                                      obtain ⟨g2, cap2, HBn, HTn, HCn⟩ := hcut
                                      go_wp2_with fail
                                      go_roundw
                                      case rel => exact ⟨j + 1, ts ++ [tt], .slice (some ⟨g2, 0, none⟩) (ts.length + 1) cap2, by go_num, by omega, by rw [List.length_append]; simp; omega, HBn, HTn, HCn.out, HN2⟩
                                      case measure => simp [intOf]; omega
                  · obtain rfl : k2 = f.length := by omega
                    have k21 : ¬ ((f.length : Int) < (f.length : Int)) := by omega
                    have HRR : Hid (RR = ⟨opv, namesR ((f.drop 1).take (k - 1)), ts, qu⟩) := by rw [Hid, HRL.out, testsR_end HREL.out]; simp only; rw [HX.out]
                    have hr5 := HR5.out
                    have hb5 := HB.out
                    have c0 := cell_of_row W5 w.heap.size 0 _ _ (0, 0) hr5
                    have c1 := cell_of_row W5 w.heap.size 1 _ _ (0, 0) hr5
                    have c2 := cell_of_row W5 w.heap.size 2 _ _ (0, 0) hr5
                    have c3 := cell_of_row W5 w.heap.size 3 _ _ (0, 0) hr5
                    have fr0 := fzB hr5 0
                    have fr1 := fzB hr5 1
                    have fr2 := fzB hr5 2
                    have fr3 := fzB hr5 3
                    simp at c0 c1 c2 c3
                    have o0 := cell_of_row W5 W1.heap.size 0 _ _ (0, 0) hb5
                    have o1 := cell_of_row W5 W1.heap.size 1 _ _ (0, 0) hb5
                    have o2 := cell_of_row W5 W1.heap.size 2 _ _ (0, 0) hb5
                    have o3 := cell_of_row W5 W1.heap.size 3 _ _ (0, 0) hb5
                    simp at o0 o1 o2 o3
                    obtain ⟨AX, NX, dX, rfl⟩ : ∃ A N d, vX = .slice A N d := by obtain ⟨A, d, e, _, _⟩ := HTS.out.form; exact ⟨A, _, d, e⟩
                    clear hr5 hb5
                    go_upto_region 23 with fail
                    go_cut [] from 139 to 139 (fun wx => (wx.cell? ⟨w.heap.size, 0, none⟩ = some (.int .i64 opv) ∧ wx.cell? ⟨w.heap.size, 1, none⟩ = some (.slice AT NT dT) ∧ wx.cell? ⟨w.heap.size, 2, none⟩ = some (.slice AX NX dX) ∧ wx.cell? ⟨w.heap.size, 3, none⟩ = some (.bool qu)) ∧ Chg (fun b => b = w.heap.size) W5 wx)
                    case first =>
                      go_wp2_with fail
                      go_meet
                      refine ⟨⟨?_, ?_, ?_, ?_⟩, ?_⟩
                      · simp [go_sem, c0]
                      · simp [go_sem, c1]
                      · simp [go_sem, c2]
                      · simp [go_sem, c3]
                      · repeat (refine Chg.set (X := fun b => b = w.heap.size) ?_ rfl _)
                        exact Chg.refl _ _
                    case rest =>
                      rename_i hret
                      refine hret _ _ (wp_ret ?_)
                      change bodyPost Tryz.prog Tryz.f70 (RulPostR w RR) .ret _ _
                      obtain ⟨⟨g0, g1, g2, g3⟩, hc5⟩ := hcut
                      refine bodyPost_ret (by simp [results, Tryz.results70, go_sem, g0, g1, g2, g3]; try rfl) rfl ?_
                      unfold RulPostR
                      rw [HRR.out]
                      have hs4 := bW4.size
                      have hs1 := bW1.size
                      have hwg : w.heap.size < W1.heap.size := by omega
                      refine ⟨.slice AT NT dT, .slice AX NX dX, rfl, ?_, BW5.out.trans ((hc5.mono (Y := fun b => w.heap.size ≤ b) (fun b _ e => by omega)).below (by have := BW5.out.size; omega))⟩
                      have oT : Own W2.heap.size 9 (.slice AT NT dT) ((namesR ((f.drop 1).take (k - 1))).map S) _ := own_chg (own_chg HOT.out hch (fun g' hg' hx => by have h1 := Own.lt HOT.out g' hg'; have := HZ2.out; omega)) hc5 (fun g' hg' hx => by have h1 := Own.lt HOT.out g' hg'; have := HZ2.out; omega)
                      have fT := own_firm (X := fun b => b < w.heap.size) oT (fun g' hg' hx => by have h1 := Own.lt oT g' hg'; have := HZ2.out; omega)
                      obtain ⟨xs, e1, e2, e3⟩ := HTS.out.chg hc5 (fun b _ e => by omega)
                      have fX := own_firm (X := fun b => b < w.heap.size) e2 (fun g' hg' hx => by have h1 := e2.lt g' hg'; omega)
                      have fX2 := e3.sub (X' := fun b => b < w.heap.size) (fun b _ e => Or.inl (by omega))
                      refine ((fT.and (fX.and fX2))).mono fun W h => ⟨?_, xs, h.2.1, h.2.2⟩
                      have h1 := h.1
                      rw [List.length_map] at h1
                      exact h1

/- Plain words: the sizes of what the reference reads. -/
open Go.RowKit
set_option linter.unusedVariables false

theorem testR_sized (f : List Bs) : (testR f).tags.length ≤ f.length ∧ (testR f).barrier.length ≤ f.length := by
  rw [testR_of rfl rfl rfl]
  split
  · simp only [names_len, List.length_take, List.length_drop, List.length_tail]; omega
  · simp only [names_len, List.length_tail, List.length_nil]; omega
theorem stripLast_len (l : List Bs) : (stripLast l).length ≤ l.length := by
  cases h : l.length with
  | zero =>
    have : l = [] := List.eq_nil_of_length_eq_zero h
    rw [this]; simp [stripLast]
  | succ n => rw [stripLast_set h, List.length_set, h]; omega
theorem testsR_sized : ∀ (n : Nat) (l : List Bs) (ts : List Tst), testsR n l = some ts → ts.length ≤ l.length ∧ ∀ t ∈ ts, t.tags.length ≤ l.length ∧ t.barrier.length ≤ l.length
  | n, [], ts, h => by
    rw [testsR_nil] at h
    cases h
    exact ⟨Nat.le_refl _, fun t ht => by cases ht⟩
  | 0, w :: r, ts, h => by simp [testsR] at h
  | n + 1, w :: r, ts, h => by
    rw [testsR_cons] at h
    split at h
    · cases h
    · cases hr : testsR n ((w :: r).drop (closesAt (w :: r) + 1)) with
      | none => rw [hr] at h; cases h
      | some us =>
        rw [hr] at h
        cases h
        obtain ⟨h1, h2⟩ := testsR_sized n _ us hr
        rw [List.length_drop] at h1 h2
        refine ⟨by rw [List.length_cons, List.length_cons] at *; omega, fun t ht => ?_⟩
        rcases List.mem_cons.1 ht with rfl | ht
        · have h3 := testR_sized (stripLast (w.tail :: ((w :: r).take (closesAt (w :: r) + 1)).tail))
          have h4 := stripLast_len (w.tail :: ((w :: r).take (closesAt (w :: r) + 1)).tail)
          rw [List.length_cons, List.length_tail, List.length_take] at h4
          rw [List.length_cons] at h4 ⊢
          omega
        · have := h2 t ht
          omega
theorem ruleR_sized (s : Bs) (hs : s.length ≤ 20000) : SizedR (ruleR s) := by
  have hw := words_len s
  rw [ruleR_eq]
  split
  · rename_i ts h
    obtain ⟨h1, h2⟩ := testsR_sized _ _ _ h
    rw [List.length_drop, List.length_drop] at h1 h2
    refine ⟨?_, ?_, fun t ht => ?_⟩
    · simp only [names_len, List.length_take, List.length_drop]; omega
    · show ts.length ≤ _; omega
    · have := h2 t ht; omega
  · exact ⟨by simp [zeroR], by simp [zeroR], fun t ht => by cases ht⟩
end Go.Proofs.YtplipnchkkhdaaaGreatDoor
