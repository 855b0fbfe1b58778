/- Walks of rat: must, parse. -/
import Derived.Test.YtfgmjdhoeilhcaaGreatDoorSk
import Derived.Test.YtfgmjdhoeilhcaaGreatDoorNz
namespace Go.Proofs.YtfgmjdhoeilhcaaGreatDoor
open Go.RowKit
set_option linter.unusedVariables false

/-- a number of rat's -/
def numV (x : Bool × Bs × Bs) : Value := .agg #[.bool x.1, .string ⟨x.2.1.toArray⟩, .string ⟨x.2.2.toArray⟩]
theorem pre_one (l : Bs) (c : UInt8) : Lib.hasPrefix l [c] = decide (l.head? = some c) := by
  cases l with
  | nil => simp [Lib.hasPrefix]
  | cons x r =>
    simp only [Lib.hasPrefix, List.isPrefixOf, List.head?_cons, Option.some.injEq, Bool.and_true]
    by_cases h : c = x
    · subst h; simp
    · simp [h, Ne.symm h]
theorem ratS_pre (l : Bs) : ratS l = (Lib.hasPrefix l [45], Lib.trimPrefix l [45]) := by
  unfold ratS Lib.trimPrefix
  rw [pre_one]
  by_cases h : l.head? = some 45
  · simp [h]
  · simp [h]
theorem index_cut (c : UInt8) : ∀ l : Bs, (cutB c l = none ∧ Lib.index l [c] = -1) ∨ ∃ p, cutB c l = some p ∧ Lib.index l [c] = (p.1.length : Int)
  | [] => Or.inl ⟨rfl, rfl⟩
  | x :: r => by
    have hp : [c].isPrefixOf (x :: r) = (c == x) := by simp [List.isPrefixOf]
    by_cases h : x = c
    · subst h
      exact Or.inr ⟨([], r), by simp [cutB], by unfold Lib.index; rw [hp]; simp⟩
    · have hb : (c == x) = false := beq_eq_false_iff_ne.2 (fun e => h e.symm)
      rcases index_cut c r with ⟨h1, h2⟩ | ⟨p, h1, h2⟩
      · exact Or.inl ⟨by simp [cutB, h, h1], by unfold Lib.index; rw [hp, hb, h2]; rfl⟩
      · refine Or.inr ⟨(x :: p.1, p.2), by simp [cutB, h, h1], ?_⟩
        unfold Lib.index
        have hn : ((p.1.length : Int) == -1) = false := beq_eq_false_iff_ne.2 (by omega)
        rw [hp, hb, h2, hn]
        simp
theorem cut_one (c : UInt8) (l : Bs) : Lib.cut l [c] = match cutB c l with
    | some p => (p.1, p.2, true)
    | none => (l, [], false) := by
  unfold Lib.cut
  rcases index_cut c l with ⟨h1, h2⟩ | ⟨p, h1, h2⟩
  · rw [h1, h2]; rfl
  · rw [h1, h2]
    obtain ⟨e1, _⟩ := cutB_some.1 (show cutB c l = some (p.1, p.2) by rw [h1])
    rw [if_pos (by omega)]
    conv => lhs; rw [e1]
    simp
theorem ratF_cut (r : Bs) : Lib.cut r [47] = ((ratF r).2.1, if (ratF r).1 = true then (ratF r).2.2 else [], (ratF r).1) := by
  rw [cut_one]
  unfold ratF
  cases h : cutB 47 r with
  | none => simp
  | some p => simp
theorem ratF_den {r : Bs} (h : (ratF r).1 = false) : (ratF r).2.2 = [49] := (ratF_eq r).2 h

set_option maxHeartbeats 1000000 in
set_option maxRecDepth 100000 in
theorem must_ok (c : ByteArray) (w : World) : Calls Tryz.prog 51 #[.string c, .int .i64 0] w fun e w' => e = .returned (.string c) ∧ w = w' := by
  go_enter Tryz.func51, Tryz.ntmps51
  go_wp2_with fail
  go_returns
  exact ⟨rfl, rfl⟩

theorem is49 {s : ByteArray} {n : Nat} (h : s.data.toList = decT n) : (s.toList == [49]) = decide (n = 1) := by
  rw [Lib.toList_data, h]
  by_cases h0 : n = 1
  · subst h0; rfl
  · have : decT n ≠ [49] := fun e => h0 (by rw [← decV_decT n, e]; rfl)
    rw [beq_eq_false_iff_ne.2 this]; simp [h0]
theorem frz {w w' : World} {b : Nat} (h : w'.heap[b]? = w.heap[b]?) (o : Nat) (hf : w.frozen? ⟨b, o, none⟩ = false) : w'.frozen? ⟨b, o, none⟩ = false := by
  unfold World.frozen? at hf ⊢
  rw [h]; exact hf
theorem rescell (w : World) (k : Nat) (o : Nat) (v : Value) (h : (#[Value.bool false, .string ⟨#[]⟩, .string ⟨#[]⟩] : Array Value)[o]? = some v) : ((w.alloc (.cells #[.bool false, .string ⟨#[]⟩, .string ⟨#[]⟩] 43)).drewN k).cell? ⟨w.heap.size, o, none⟩ = some v := by
  show (w.alloc _).cell? _ = _
  rw [cell_of_row (w.alloc _) w.heap.size o _ _ (0, 0) (heap_alloc_new w _)]
  exact h
theorem resfrz (w : World) (k : Nat) (o : Nat) : ((w.alloc (.cells #[.bool false, .string ⟨#[]⟩, .string ⟨#[]⟩] 43)).drewN k).frozen? ⟨w.heap.size, o, none⟩ = false := by
  show (w.alloc _).frozen? _ = _
  unfold World.frozen?
  rw [heap_alloc_new]
  simp

set_option maxHeartbeats 2000000 in
set_option maxRecDepth 100000 in
theorem parse_any (s : ByteArray) (w : World) (hT : Tabs w) (hs : s.size ≤ 1000000) :
    Calls Tryz.prog 33 #[.string s] w fun e w' => e = .returned (.tuple #[numV ((ratP s.data.toList).getD (false, [], [])), .bool (ratP s.data.toList).isSome]) ∧ Below w.heap.size w w' := by
  have hcp := fun W => Tryz.strings_CutPrefix s ⟨#[45]⟩ W
  have e0 : ((⟨#[45]⟩ : ByteArray).data.toList) = [45] := rfl
  have e1 : Lib.hasPrefix s.data.toList [45] = (ratS s.data.toList).1 := by rw [ratS_pre]
  have e2 : Lib.trimPrefix s.data.toList [45] = (ratS s.data.toList).2 := by rw [ratS_pre]
  rw [e0, e1, e2] at hcp
  have HP : Hid (ratP s.data.toList = if ratOk (ratS s.data.toList).1 (ratF (ratS s.data.toList).2).1 (ratF (ratS s.data.toList).2).2.1 (ratF (ratS s.data.toList).2).2.2 = true then some ((ratS s.data.toList).1, (ratF (ratS s.data.toList).2).2.1, (ratF (ratS s.data.toList).2).2.2) else none) := rfl
  have hlen : (ratS s.data.toList).2.length ≤ s.size := by
    have := congrArg List.length (ratS_eq s.data.toList)
    rw [List.length_append, ← Lib.size_eq] at this
    omega
  obtain ⟨R, hR⟩ : ∃ R : ByteArray, (⟨(ratS s.data.toList).2.toArray⟩ : ByteArray) = R := ⟨_, rfl⟩
  have hRd : R.data.toList = (ratS s.data.toList).2 := by rw [← hR]
  have hRs : R.size ≤ 1000000 := by rw [Lib.size_eq, hRd]; omega
  rw [hR] at hcp
  rw [← hRd] at HP
  have hct := fun W m hm => Tryz.strings_Cut R ⟨#[47]⟩ m W (by omega) hm
  have e3 : ((⟨#[47]⟩ : ByteArray).data.toList) = [47] := rfl
  rw [e3, ratF_cut] at hct
  have hrd := fun h => ratF_den (r := R.data.toList) h
  have hre := (ratF_eq R.data.toList).1
  obtain ⟨A, hA⟩ : ∃ A : ByteArray, (⟨(ratF R.data.toList).2.1.toArray⟩ : ByteArray) = A := ⟨_, rfl⟩
  have hAd : (ratF R.data.toList).2.1 = A.data.toList := by rw [← hA]
  have hAs : A.size ≤ 1000000 := by
    have := congrArg List.length hre
    rw [List.length_append, ← Lib.size_eq, hAd, ← Lib.size_eq] at this
    omega
  have hDs : (ratF R.data.toList).2.2.length ≤ 1000000 := by
    by_cases hf : (ratF R.data.toList).1 = true
    · have := congrArg List.length hre
      rw [List.length_append, ← Lib.size_eq, if_pos hf, List.length_cons] at this
      omega
    · rw [hrd (by simpa using hf)]; simp
  obtain ⟨D, hD⟩ : ∃ D : ByteArray, (⟨(ratF R.data.toList).2.2.toArray⟩ : ByteArray) = D := ⟨_, rfl⟩
  have hDd : (ratF R.data.toList).2.2 = D.data.toList := by rw [← hD]
  rw [hDd, ← Lib.size_eq] at hDs
  rw [hAd, hDd] at HP
  simp only [hAd, hDd] at hct hrd
  clear hre hA hD hAd hDd hR hRd hlen e0 e1 e2 e3
  generalize (ratS s.data.toList).1 = neg at *
  generalize (ratF R.data.toList).1 = fr at *
  obtain ⟨M, hM⟩ := hT.mx
  have vA := fun W => nvalid_any A W (by omega)
  have vD := fun W => nvalid_any D W (by omega)
  have HRD := Lib.hid hrd
  have hA' : (⟨A.data.toList.toArray⟩ : ByteArray) = A := data_of rfl
  have hD' : (⟨D.data.toList.toArray⟩ : ByteArray) = D := data_of rfl
  simp only [hA'] at hct
  have hb0 : Below w.heap.size w (w.alloc (.cells #[.bool false, .string ⟨#[]⟩, .string ⟨#[]⟩] 43)) := (Below.refl _ w).alloc (Nat.le_refl _) _
  have hM0 := (hb0.cell (cell_lt hM)).trans hM
  have hgd : okN A.data.toList = true → okN D.data.toList = true → natGcd A.data.toList D.data.toList = (decT (Nat.gcd (decV A.data.toList) (decV D.data.toList)), 0) := fun h1 h2 => by unfold natGcd; rw [if_pos ⟨h1, h2⟩]
  have ng := fun (h1 : okN A.data.toList = true) (h2 : okN D.data.toList = true) W h => (show Calls Tryz.prog 62 #[.string A, .string D] W (TxtPost W (decT (Nat.gcd (decV A.data.toList) (decV D.data.toList)), 0)) by rw [← hgd h1 h2]; exact ngcd_any A D W h (by omega) (by omega))
  have hG : (ByteArray.toList ⟨(decT (Nat.gcd (decV A.data.toList) (decV D.data.toList))).toArray⟩ == [49]) = decide (Nat.gcd (decV A.data.toList) (decV D.data.toList) = 1) := is49 rfl
  obtain ⟨F, hF⟩ : ∃ F : ByteArray, (⟨(decT (Nat.gcd (decV A.data.toList) (decV D.data.toList))).toArray⟩ : ByteArray) = F := ⟨_, rfl⟩
  unfold TxtPost at ng
  simp only [hF] at ng
  rw [hF] at hG
  unfold ratOk at HP
  have q5 : (A.toList == [48]) = (A.data.toList == [48]) := by rw [Lib.toList_data]
  have q6 : (D.toList == [48]) = (D.data.toList == [48]) := by rw [Lib.toList_data]
  have q7 : (D.toList == [49]) = (D.data.toList == [49]) := by rw [Lib.toList_data]
  rw [← hG, ← q5, ← q6, ← q7] at HP
  rw [← Lib.size_eq, ← Lib.size_eq] at HP
  clear hM hrd hF hG hgd q5 q6 q7
  cases fr with
  | true =>
    simp only [if_true, hD'] at hct
    clear hA' hD' HRD
    obtain ⟨b1, h1⟩ : ∃ b, okN A.data.toList = b := ⟨_, rfl⟩
    obtain ⟨b2, h2⟩ : ∃ b, okN D.data.toList = b := ⟨_, rfl⟩
    obtain ⟨b3, h3⟩ : ∃ b, decide (A.size ≤ 400) = b := ⟨_, rfl⟩
    obtain ⟨b4, h4⟩ : ∃ b, decide (D.size ≤ 400) = b := ⟨_, rfl⟩
    obtain ⟨b5, h5⟩ : ∃ b, (A.toList == [48]) = b := ⟨_, rfl⟩
    obtain ⟨b6, h6⟩ : ∃ b, (D.toList == [48]) = b := ⟨_, rfl⟩
    obtain ⟨b7, h7⟩ : ∃ b, (D.toList == [49]) = b := ⟨_, rfl⟩
    obtain ⟨b8, h8⟩ : ∃ b, (F.toList == [49]) = b := ⟨_, rfl⟩
    rw [h1, h2, h3, h4, h5, h6, h7, h8] at HP
    rw [h1] at vA
    rw [h2] at vD
    go_enter Tryz.func33, Tryz.ntmps33
    go_wp2_with (first
      | (go_at_call 43; refine (hcp _).mono ?_; rintro e w1 ⟨rfl, rfl⟩))
    refine (hct _ M hM0).mono ?_
    rintro e w2 ⟨rfl, k, rfl⟩
    have hsz : w.heap.size < ((w.alloc (.cells #[.bool false, .string ⟨#[]⟩, .string ⟨#[]⟩] 43)).drewN k).heap.size := by simp
    have hbk : Below w.heap.size w ((w.alloc (.cells #[.bool false, .string ⟨#[]⟩, .string ⟨#[]⟩] 43)).drewN k) := ⟨hb0.os, hb0.tape, hb0.output, hb0.size, hb0.block⟩
    cases b1 with
    | false =>
      have HPR : Hid (ratP s.data.toList = none) := by rw [Hid, HP.out]; rfl
      clear HP
      go_wp2_with (first
        | (go_at_call_of 37 (Value.string A); refine (vA _).mono ?_; rintro e w2 ⟨rfl, rfl⟩)
        | (go_at_call_of 37 (Value.string D); refine (vD _).mono ?_; rintro e w2 ⟨rfl, rfl⟩))
      go_returns
      exact ⟨by rw [HPR.out]; rfl, ((hbk.setCell (p := ⟨w.heap.size, 0, none⟩) (Nat.le_refl _) _).setCell (p := ⟨w.heap.size, 1, none⟩) (Nat.le_refl _) _).setCell (p := ⟨w.heap.size, 2, none⟩) (Nat.le_refl _) _⟩
    | true =>
      cases b2 with
      | false =>
        have HPR : Hid (ratP s.data.toList = none) := by rw [Hid, HP.out]; rfl
        clear HP
        go_wp2_with (first
          | (go_at_call_of 37 (Value.string A); refine (vA _).mono ?_; rintro e w2 ⟨rfl, rfl⟩)
          | (go_at_call_of 37 (Value.string D); refine (vD _).mono ?_; rintro e w2 ⟨rfl, rfl⟩))
        go_returns
        exact ⟨by rw [HPR.out]; rfl, ((hbk.setCell (p := ⟨w.heap.size, 0, none⟩) (Nat.le_refl _) _).setCell (p := ⟨w.heap.size, 1, none⟩) (Nat.le_refl _) _).setCell (p := ⟨w.heap.size, 2, none⟩) (Nat.le_refl _) _⟩
      | true =>
        cases b3 with
        | false =>
          have hl : (400 : Int) < (A.size : Int) := by have := of_decide_eq_false h3; omega
          have HPR : Hid (ratP s.data.toList = none) := by rw [Hid, HP.out]; rfl
          clear HP
          go_wp2_with (first
            | (go_at_call_of 37 (Value.string A); refine (vA _).mono ?_; rintro e w2 ⟨rfl, rfl⟩)
            | (go_at_call_of 37 (Value.string D); refine (vD _).mono ?_; rintro e w2 ⟨rfl, rfl⟩))
          go_returns
          exact ⟨by rw [HPR.out]; rfl, ((hbk.setCell (p := ⟨w.heap.size, 0, none⟩) (Nat.le_refl _) _).setCell (p := ⟨w.heap.size, 1, none⟩) (Nat.le_refl _) _).setCell (p := ⟨w.heap.size, 2, none⟩) (Nat.le_refl _) _⟩
        | true =>
          have hl3 : decide ((400 : Int) < (A.size : Int)) = false := by have := of_decide_eq_true h3; exact decide_eq_false (by omega)
          have hm3 : (A.size : Int) ≤ 400 := by have := of_decide_eq_true h3; omega
          cases b4 with
          | false =>
            have hl : (400 : Int) < (D.size : Int) := by have := of_decide_eq_false h4; omega
            have HPR : Hid (ratP s.data.toList = none) := by rw [Hid, HP.out]; rfl
            clear HP
            go_wp2_with (first
              | (go_at_call_of 37 (Value.string A); refine (vA _).mono ?_; rintro e w2 ⟨rfl, rfl⟩)
              | (go_at_call_of 37 (Value.string D); refine (vD _).mono ?_; rintro e w2 ⟨rfl, rfl⟩))
            go_returns
            exact ⟨by rw [HPR.out]; rfl, ((hbk.setCell (p := ⟨w.heap.size, 0, none⟩) (Nat.le_refl _) _).setCell (p := ⟨w.heap.size, 1, none⟩) (Nat.le_refl _) _).setCell (p := ⟨w.heap.size, 2, none⟩) (Nat.le_refl _) _⟩
          | true =>
            have hl4 : decide ((400 : Int) < (D.size : Int)) = false := by have := of_decide_eq_true h4; exact decide_eq_false (by omega)
            have hm4 : (D.size : Int) ≤ 400 := by have := of_decide_eq_true h4; omega
            cases neg with
            | true =>
              cases b5 with
              | true =>
                have HPR : Hid (ratP s.data.toList = none) := by rw [Hid, HP.out]; rfl
                clear HP
                go_wp2_with (first
                  | (go_at_call_of 37 (Value.string A); refine (vA _).mono ?_; rintro e w2 ⟨rfl, rfl⟩)
                  | (go_at_call_of 37 (Value.string D); refine (vD _).mono ?_; rintro e w2 ⟨rfl, rfl⟩))
                go_returns
                exact ⟨by rw [HPR.out]; rfl, ((hbk.setCell (p := ⟨w.heap.size, 0, none⟩) (Nat.le_refl _) _).setCell (p := ⟨w.heap.size, 1, none⟩) (Nat.le_refl _) _).setCell (p := ⟨w.heap.size, 2, none⟩) (Nat.le_refl _) _⟩
              | false =>
                cases b6 with
                | true =>
                  have HPR : Hid (ratP s.data.toList = none) := by rw [Hid, HP.out]; rfl
                  clear HP
                  go_wp2_with (first
                    | (go_at_call_of 37 (Value.string A); refine (vA _).mono ?_; rintro e w2 ⟨rfl, rfl⟩)
                    | (go_at_call_of 37 (Value.string D); refine (vD _).mono ?_; rintro e w2 ⟨rfl, rfl⟩))
                  go_returns
                  exact ⟨by rw [HPR.out]; rfl, ((hbk.setCell (p := ⟨w.heap.size, 0, none⟩) (Nat.le_refl _) _).setCell (p := ⟨w.heap.size, 1, none⟩) (Nat.le_refl _) _).setCell (p := ⟨w.heap.size, 2, none⟩) (Nat.le_refl _) _⟩
                | false =>
                  cases b7 with
                  | true =>
                    have HPR : Hid (ratP s.data.toList = none) := by rw [Hid, HP.out]; rfl
                    clear HP
                    go_wp2_with (first
                      | (go_at_call_of 37 (Value.string A); refine (vA _).mono ?_; rintro e w2 ⟨rfl, rfl⟩)
                      | (go_at_call_of 37 (Value.string D); refine (vD _).mono ?_; rintro e w2 ⟨rfl, rfl⟩))
                    go_returns
                    exact ⟨by rw [HPR.out]; rfl, ((hbk.setCell (p := ⟨w.heap.size, 0, none⟩) (Nat.le_refl _) _).setCell (p := ⟨w.heap.size, 1, none⟩) (Nat.le_refl _) _).setCell (p := ⟨w.heap.size, 2, none⟩) (Nat.le_refl _) _⟩
                  | false =>
                    have ngk := ng h1 h2
                    cases b8 with
                    | false =>
                      have HPR : Hid (ratP s.data.toList = none) := by rw [Hid, HP.out]; rfl
                      clear HP
                      go_wp2_with (first
                        | (go_at_call_of 37 (Value.string A); refine (vA _).mono ?_; rintro e w2 ⟨rfl, rfl⟩)
                        | (go_at_call_of 37 (Value.string D); refine (vD _).mono ?_; rintro e w2 ⟨rfl, rfl⟩)
                        | (go_at_call 62; refine (ngk _ (hT.below hbk)).mono ?_; rintro e w3 ⟨rfl, b3⟩; have hb3 := bstep hbk b3; have c0 := (b3.cell (p := ⟨w.heap.size, 0, none⟩) hsz).trans (rescell w k 0 _ rfl); have c1 := (b3.cell (p := ⟨w.heap.size, 1, none⟩) hsz).trans (rescell w k 1 _ rfl); have c2 := (b3.cell (p := ⟨w.heap.size, 2, none⟩) hsz).trans (rescell w k 2 _ rfl); have f0 := frz (b3.block w.heap.size hsz) 0 (resfrz w k 0); have f1 := frz (b3.block w.heap.size hsz) 1 (resfrz w k 1); have f2 := frz (b3.block w.heap.size hsz) 2 (resfrz w k 2)))
                      refine bodyPost_ret (by simp [results, Tryz.results33, c0, c1, c2, go_sem]; try rfl) rfl ?_
                      exact ⟨by rw [HPR.out]; rfl, ((hb3.setCell (p := ⟨w.heap.size, 0, none⟩) (Nat.le_refl _) _).setCell (p := ⟨w.heap.size, 1, none⟩) (Nat.le_refl _) _).setCell (p := ⟨w.heap.size, 2, none⟩) (Nat.le_refl _) _⟩
                    | true =>
                      have HPR : Hid (ratP s.data.toList = some (true, A.data.toList, D.data.toList)) := by rw [Hid, HP.out]; rfl
                      clear HP
                      go_wp2_with (first
                        | (go_at_call_of 37 (Value.string A); refine (vA _).mono ?_; rintro e w2 ⟨rfl, rfl⟩)
                        | (go_at_call_of 37 (Value.string D); refine (vD _).mono ?_; rintro e w2 ⟨rfl, rfl⟩)
                        | (go_at_call 62; refine (ngk _ (hT.below hbk)).mono ?_; rintro e w3 ⟨rfl, b3⟩; have hb3 := bstep hbk b3; have c0 := (b3.cell (p := ⟨w.heap.size, 0, none⟩) hsz).trans (rescell w k 0 _ rfl); have c1 := (b3.cell (p := ⟨w.heap.size, 1, none⟩) hsz).trans (rescell w k 1 _ rfl); have c2 := (b3.cell (p := ⟨w.heap.size, 2, none⟩) hsz).trans (rescell w k 2 _ rfl); have f0 := frz (b3.block w.heap.size hsz) 0 (resfrz w k 0); have f1 := frz (b3.block w.heap.size hsz) 1 (resfrz w k 1); have f2 := frz (b3.block w.heap.size hsz) 2 (resfrz w k 2)))
                      refine bodyPost_ret (by simp [results, Tryz.results33, c0, c1, c2, go_sem]; try rfl) rfl ?_
                      exact ⟨by rw [HPR.out]; rfl, ((hb3.setCell (p := ⟨w.heap.size, 0, none⟩) (Nat.le_refl _) _).setCell (p := ⟨w.heap.size, 1, none⟩) (Nat.le_refl _) _).setCell (p := ⟨w.heap.size, 2, none⟩) (Nat.le_refl _) _⟩
            | false =>
              cases b6 with
              | true =>
                have HPR : Hid (ratP s.data.toList = none) := by rw [Hid, HP.out]; rfl
                clear HP
                go_wp2_with (first
                  | (go_at_call_of 37 (Value.string A); refine (vA _).mono ?_; rintro e w2 ⟨rfl, rfl⟩)
                  | (go_at_call_of 37 (Value.string D); refine (vD _).mono ?_; rintro e w2 ⟨rfl, rfl⟩))
                go_returns
                exact ⟨by rw [HPR.out]; rfl, ((hbk.setCell (p := ⟨w.heap.size, 0, none⟩) (Nat.le_refl _) _).setCell (p := ⟨w.heap.size, 1, none⟩) (Nat.le_refl _) _).setCell (p := ⟨w.heap.size, 2, none⟩) (Nat.le_refl _) _⟩
              | false =>
                cases b7 with
                | true =>
                  have HPR : Hid (ratP s.data.toList = none) := by rw [Hid, HP.out]; rfl
                  clear HP
                  go_wp2_with (first
                    | (go_at_call_of 37 (Value.string A); refine (vA _).mono ?_; rintro e w2 ⟨rfl, rfl⟩)
                    | (go_at_call_of 37 (Value.string D); refine (vD _).mono ?_; rintro e w2 ⟨rfl, rfl⟩))
                  go_returns
                  exact ⟨by rw [HPR.out]; rfl, ((hbk.setCell (p := ⟨w.heap.size, 0, none⟩) (Nat.le_refl _) _).setCell (p := ⟨w.heap.size, 1, none⟩) (Nat.le_refl _) _).setCell (p := ⟨w.heap.size, 2, none⟩) (Nat.le_refl _) _⟩
                | false =>
                  have ngk := ng h1 h2
                  cases b8 with
                  | false =>
                    have HPR : Hid (ratP s.data.toList = none) := by rw [Hid, HP.out]; rfl
                    clear HP
                    go_wp2_with (first
                      | (go_at_call_of 37 (Value.string A); refine (vA _).mono ?_; rintro e w2 ⟨rfl, rfl⟩)
                      | (go_at_call_of 37 (Value.string D); refine (vD _).mono ?_; rintro e w2 ⟨rfl, rfl⟩)
                      | (go_at_call 62; refine (ngk _ (hT.below hbk)).mono ?_; rintro e w3 ⟨rfl, b3⟩; have hb3 := bstep hbk b3; have c0 := (b3.cell (p := ⟨w.heap.size, 0, none⟩) hsz).trans (rescell w k 0 _ rfl); have c1 := (b3.cell (p := ⟨w.heap.size, 1, none⟩) hsz).trans (rescell w k 1 _ rfl); have c2 := (b3.cell (p := ⟨w.heap.size, 2, none⟩) hsz).trans (rescell w k 2 _ rfl); have f0 := frz (b3.block w.heap.size hsz) 0 (resfrz w k 0); have f1 := frz (b3.block w.heap.size hsz) 1 (resfrz w k 1); have f2 := frz (b3.block w.heap.size hsz) 2 (resfrz w k 2)))
                    refine bodyPost_ret (by simp [results, Tryz.results33, c0, c1, c2, go_sem]; try rfl) rfl ?_
                    exact ⟨by rw [HPR.out]; rfl, ((hb3.setCell (p := ⟨w.heap.size, 0, none⟩) (Nat.le_refl _) _).setCell (p := ⟨w.heap.size, 1, none⟩) (Nat.le_refl _) _).setCell (p := ⟨w.heap.size, 2, none⟩) (Nat.le_refl _) _⟩
                  | true =>
                    have HPR : Hid (ratP s.data.toList = some (false, A.data.toList, D.data.toList)) := by rw [Hid, HP.out]; rfl
                    clear HP
                    go_wp2_with (first
                      | (go_at_call_of 37 (Value.string A); refine (vA _).mono ?_; rintro e w2 ⟨rfl, rfl⟩)
                      | (go_at_call_of 37 (Value.string D); refine (vD _).mono ?_; rintro e w2 ⟨rfl, rfl⟩)
                      | (go_at_call 62; refine (ngk _ (hT.below hbk)).mono ?_; rintro e w3 ⟨rfl, b3⟩; have hb3 := bstep hbk b3; have c0 := (b3.cell (p := ⟨w.heap.size, 0, none⟩) hsz).trans (rescell w k 0 _ rfl); have c1 := (b3.cell (p := ⟨w.heap.size, 1, none⟩) hsz).trans (rescell w k 1 _ rfl); have c2 := (b3.cell (p := ⟨w.heap.size, 2, none⟩) hsz).trans (rescell w k 2 _ rfl); have f0 := frz (b3.block w.heap.size hsz) 0 (resfrz w k 0); have f1 := frz (b3.block w.heap.size hsz) 1 (resfrz w k 1); have f2 := frz (b3.block w.heap.size hsz) 2 (resfrz w k 2)))
                    refine bodyPost_ret (by simp [results, Tryz.results33, c0, c1, c2, go_sem]; try rfl) rfl ?_
                    exact ⟨by rw [HPR.out]; rfl, ((hb3.setCell (p := ⟨w.heap.size, 0, none⟩) (Nat.le_refl _) _).setCell (p := ⟨w.heap.size, 1, none⟩) (Nat.le_refl _) _).setCell (p := ⟨w.heap.size, 2, none⟩) (Nat.le_refl _) _⟩
  | false =>
    have hDe : D = ⟨#[49]⟩ := by
      have h := HRD.out rfl
      rw [← hD', h]
    subst hDe
    clear hA' hD' HRD
    simp only [Bool.false_eq_true, if_false] at hct
    obtain ⟨b1, h1⟩ : ∃ b, okN A.data.toList = b := ⟨_, rfl⟩
    obtain ⟨b2, h2⟩ : ∃ b, okN (⟨#[49]⟩ : ByteArray).data.toList = b := ⟨_, rfl⟩
    obtain ⟨b3, h3⟩ : ∃ b, decide (A.size ≤ 400) = b := ⟨_, rfl⟩
    obtain ⟨b4, h4⟩ : ∃ b, decide (ByteArray.size ⟨#[49]⟩ ≤ 400) = b := ⟨_, rfl⟩
    obtain ⟨b5, h5⟩ : ∃ b, (A.toList == [48]) = b := ⟨_, rfl⟩
    obtain ⟨b6, h6⟩ : ∃ b, (ByteArray.toList ⟨#[49]⟩ == [48]) = b := ⟨_, rfl⟩
    obtain ⟨b7, h7⟩ : ∃ b, (ByteArray.toList ⟨#[49]⟩ == [49]) = b := ⟨_, rfl⟩
    obtain ⟨b8, h8⟩ : ∃ b, (F.toList == [49]) = b := ⟨_, rfl⟩
    rw [h1, h2, h3, h4, h5, h6, h7, h8] at HP
    rw [h1] at vA
    rw [h2] at vD
    go_enter Tryz.func33, Tryz.ntmps33
    go_wp2_with (first
      | (go_at_call 43; refine (hcp _).mono ?_; rintro e w1 ⟨rfl, rfl⟩))
    refine (hct _ M hM0).mono ?_
    rintro e w2 ⟨rfl, k, rfl⟩
    have hsz : w.heap.size < ((w.alloc (.cells #[.bool false, .string ⟨#[]⟩, .string ⟨#[]⟩] 43)).drewN k).heap.size := by simp
    have hbk : Below w.heap.size w ((w.alloc (.cells #[.bool false, .string ⟨#[]⟩, .string ⟨#[]⟩] 43)).drewN k) := ⟨hb0.os, hb0.tape, hb0.output, hb0.size, hb0.block⟩
    cases b1 with
    | false =>
      have HPR : Hid (ratP s.data.toList = none) := by rw [Hid, HP.out]; rfl
      clear HP
      go_wp2_with (first
        | (go_at_call_of 37 (Value.string A); refine (vA _).mono ?_; rintro e w2 ⟨rfl, rfl⟩)
        | (go_at_call_of 37 (Value.string (⟨#[49]⟩ : ByteArray)); refine (vD _).mono ?_; rintro e w2 ⟨rfl, rfl⟩))
      go_returns
      exact ⟨by rw [HPR.out]; rfl, ((hbk.setCell (p := ⟨w.heap.size, 0, none⟩) (Nat.le_refl _) _).setCell (p := ⟨w.heap.size, 1, none⟩) (Nat.le_refl _) _).setCell (p := ⟨w.heap.size, 2, none⟩) (Nat.le_refl _) _⟩
    | true =>
      cases b2 with
      | false =>
        have HPR : Hid (ratP s.data.toList = none) := by rw [Hid, HP.out]; rfl
        clear HP
        go_wp2_with (first
          | (go_at_call_of 37 (Value.string A); refine (vA _).mono ?_; rintro e w2 ⟨rfl, rfl⟩)
          | (go_at_call_of 37 (Value.string (⟨#[49]⟩ : ByteArray)); refine (vD _).mono ?_; rintro e w2 ⟨rfl, rfl⟩))
        go_returns
        exact ⟨by rw [HPR.out]; rfl, ((hbk.setCell (p := ⟨w.heap.size, 0, none⟩) (Nat.le_refl _) _).setCell (p := ⟨w.heap.size, 1, none⟩) (Nat.le_refl _) _).setCell (p := ⟨w.heap.size, 2, none⟩) (Nat.le_refl _) _⟩
      | true =>
        cases b3 with
        | false =>
          have hl : (400 : Int) < (A.size : Int) := by have := of_decide_eq_false h3; omega
          have HPR : Hid (ratP s.data.toList = none) := by rw [Hid, HP.out]; rfl
          clear HP
          go_wp2_with (first
            | (go_at_call_of 37 (Value.string A); refine (vA _).mono ?_; rintro e w2 ⟨rfl, rfl⟩)
            | (go_at_call_of 37 (Value.string (⟨#[49]⟩ : ByteArray)); refine (vD _).mono ?_; rintro e w2 ⟨rfl, rfl⟩))
          go_returns
          exact ⟨by rw [HPR.out]; rfl, ((hbk.setCell (p := ⟨w.heap.size, 0, none⟩) (Nat.le_refl _) _).setCell (p := ⟨w.heap.size, 1, none⟩) (Nat.le_refl _) _).setCell (p := ⟨w.heap.size, 2, none⟩) (Nat.le_refl _) _⟩
        | true =>
          have hl3 : decide ((400 : Int) < (A.size : Int)) = false := by have := of_decide_eq_true h3; exact decide_eq_false (by omega)
          have hm3 : (A.size : Int) ≤ 400 := by have := of_decide_eq_true h3; omega
          cases b4 with
          | false =>
            exact absurd h4 (by decide)
          | true =>
            have hl4 : decide ((400 : Int) < ((⟨#[49]⟩ : ByteArray).size : Int)) = false := by have := of_decide_eq_true h4; exact decide_eq_false (by omega)
            have hm4 : ((⟨#[49]⟩ : ByteArray).size : Int) ≤ 400 := by have := of_decide_eq_true h4; omega
            cases neg with
            | true =>
              cases b5 with
              | true =>
                have HPR : Hid (ratP s.data.toList = none) := by rw [Hid, HP.out]; rfl
                clear HP
                go_wp2_with (first
                  | (go_at_call_of 37 (Value.string A); refine (vA _).mono ?_; rintro e w2 ⟨rfl, rfl⟩)
                  | (go_at_call_of 37 (Value.string (⟨#[49]⟩ : ByteArray)); refine (vD _).mono ?_; rintro e w2 ⟨rfl, rfl⟩))
                go_returns
                exact ⟨by rw [HPR.out]; rfl, ((hbk.setCell (p := ⟨w.heap.size, 0, none⟩) (Nat.le_refl _) _).setCell (p := ⟨w.heap.size, 1, none⟩) (Nat.le_refl _) _).setCell (p := ⟨w.heap.size, 2, none⟩) (Nat.le_refl _) _⟩
              | false =>
                have ngk := ng h1 h2
                cases b8 with
                | false =>
                  have HPR : Hid (ratP s.data.toList = none) := by rw [Hid, HP.out]; rfl
                  clear HP
                  go_wp2_with (first
                    | (go_at_call_of 37 (Value.string A); refine (vA _).mono ?_; rintro e w2 ⟨rfl, rfl⟩)
                    | (go_at_call_of 37 (Value.string (⟨#[49]⟩ : ByteArray)); refine (vD _).mono ?_; rintro e w2 ⟨rfl, rfl⟩)
                    | (go_at_call 62; refine (ngk _ (hT.below hbk)).mono ?_; rintro e w3 ⟨rfl, b3⟩; have hb3 := bstep hbk b3; have c0 := (b3.cell (p := ⟨w.heap.size, 0, none⟩) hsz).trans (rescell w k 0 _ rfl); have c1 := (b3.cell (p := ⟨w.heap.size, 1, none⟩) hsz).trans (rescell w k 1 _ rfl); have c2 := (b3.cell (p := ⟨w.heap.size, 2, none⟩) hsz).trans (rescell w k 2 _ rfl); have f0 := frz (b3.block w.heap.size hsz) 0 (resfrz w k 0); have f1 := frz (b3.block w.heap.size hsz) 1 (resfrz w k 1); have f2 := frz (b3.block w.heap.size hsz) 2 (resfrz w k 2)))
                  refine bodyPost_ret (by simp [results, Tryz.results33, c0, c1, c2, go_sem]; try rfl) rfl ?_
                  exact ⟨by rw [HPR.out]; rfl, ((hb3.setCell (p := ⟨w.heap.size, 0, none⟩) (Nat.le_refl _) _).setCell (p := ⟨w.heap.size, 1, none⟩) (Nat.le_refl _) _).setCell (p := ⟨w.heap.size, 2, none⟩) (Nat.le_refl _) _⟩
                | true =>
                  have HPR : Hid (ratP s.data.toList = some (true, A.data.toList, (⟨#[49]⟩ : ByteArray).data.toList)) := by rw [Hid, HP.out]; rfl
                  clear HP
                  go_wp2_with (first
                    | (go_at_call_of 37 (Value.string A); refine (vA _).mono ?_; rintro e w2 ⟨rfl, rfl⟩)
                    | (go_at_call_of 37 (Value.string (⟨#[49]⟩ : ByteArray)); refine (vD _).mono ?_; rintro e w2 ⟨rfl, rfl⟩)
                    | (go_at_call 62; refine (ngk _ (hT.below hbk)).mono ?_; rintro e w3 ⟨rfl, b3⟩; have hb3 := bstep hbk b3; have c0 := (b3.cell (p := ⟨w.heap.size, 0, none⟩) hsz).trans (rescell w k 0 _ rfl); have c1 := (b3.cell (p := ⟨w.heap.size, 1, none⟩) hsz).trans (rescell w k 1 _ rfl); have c2 := (b3.cell (p := ⟨w.heap.size, 2, none⟩) hsz).trans (rescell w k 2 _ rfl); have f0 := frz (b3.block w.heap.size hsz) 0 (resfrz w k 0); have f1 := frz (b3.block w.heap.size hsz) 1 (resfrz w k 1); have f2 := frz (b3.block w.heap.size hsz) 2 (resfrz w k 2)))
                  refine bodyPost_ret (by simp [results, Tryz.results33, c0, c1, c2, go_sem]; try rfl) rfl ?_
                  exact ⟨by rw [HPR.out]; rfl, ((hb3.setCell (p := ⟨w.heap.size, 0, none⟩) (Nat.le_refl _) _).setCell (p := ⟨w.heap.size, 1, none⟩) (Nat.le_refl _) _).setCell (p := ⟨w.heap.size, 2, none⟩) (Nat.le_refl _) _⟩
            | false =>
              have ngk := ng h1 h2
              cases b8 with
              | false =>
                have HPR : Hid (ratP s.data.toList = none) := by rw [Hid, HP.out]; rfl
                clear HP
                go_wp2_with (first
                  | (go_at_call_of 37 (Value.string A); refine (vA _).mono ?_; rintro e w2 ⟨rfl, rfl⟩)
                  | (go_at_call_of 37 (Value.string (⟨#[49]⟩ : ByteArray)); refine (vD _).mono ?_; rintro e w2 ⟨rfl, rfl⟩)
                  | (go_at_call 62; refine (ngk _ (hT.below hbk)).mono ?_; rintro e w3 ⟨rfl, b3⟩; have hb3 := bstep hbk b3; have c0 := (b3.cell (p := ⟨w.heap.size, 0, none⟩) hsz).trans (rescell w k 0 _ rfl); have c1 := (b3.cell (p := ⟨w.heap.size, 1, none⟩) hsz).trans (rescell w k 1 _ rfl); have c2 := (b3.cell (p := ⟨w.heap.size, 2, none⟩) hsz).trans (rescell w k 2 _ rfl); have f0 := frz (b3.block w.heap.size hsz) 0 (resfrz w k 0); have f1 := frz (b3.block w.heap.size hsz) 1 (resfrz w k 1); have f2 := frz (b3.block w.heap.size hsz) 2 (resfrz w k 2)))
                refine bodyPost_ret (by simp [results, Tryz.results33, c0, c1, c2, go_sem]; try rfl) rfl ?_
                exact ⟨by rw [HPR.out]; rfl, ((hb3.setCell (p := ⟨w.heap.size, 0, none⟩) (Nat.le_refl _) _).setCell (p := ⟨w.heap.size, 1, none⟩) (Nat.le_refl _) _).setCell (p := ⟨w.heap.size, 2, none⟩) (Nat.le_refl _) _⟩
              | true =>
                have HPR : Hid (ratP s.data.toList = some (false, A.data.toList, (⟨#[49]⟩ : ByteArray).data.toList)) := by rw [Hid, HP.out]; rfl
                clear HP
                go_wp2_with (first
                  | (go_at_call_of 37 (Value.string A); refine (vA _).mono ?_; rintro e w2 ⟨rfl, rfl⟩)
                  | (go_at_call_of 37 (Value.string (⟨#[49]⟩ : ByteArray)); refine (vD _).mono ?_; rintro e w2 ⟨rfl, rfl⟩)
                  | (go_at_call 62; refine (ngk _ (hT.below hbk)).mono ?_; rintro e w3 ⟨rfl, b3⟩; have hb3 := bstep hbk b3; have c0 := (b3.cell (p := ⟨w.heap.size, 0, none⟩) hsz).trans (rescell w k 0 _ rfl); have c1 := (b3.cell (p := ⟨w.heap.size, 1, none⟩) hsz).trans (rescell w k 1 _ rfl); have c2 := (b3.cell (p := ⟨w.heap.size, 2, none⟩) hsz).trans (rescell w k 2 _ rfl); have f0 := frz (b3.block w.heap.size hsz) 0 (resfrz w k 0); have f1 := frz (b3.block w.heap.size hsz) 1 (resfrz w k 1); have f2 := frz (b3.block w.heap.size hsz) 2 (resfrz w k 2)))
                refine bodyPost_ret (by simp [results, Tryz.results33, c0, c1, c2, go_sem]; try rfl) rfl ?_
                exact ⟨by rw [HPR.out]; rfl, ((hb3.setCell (p := ⟨w.heap.size, 0, none⟩) (Nat.le_refl _) _).setCell (p := ⟨w.heap.size, 1, none⟩) (Nat.le_refl _) _).setCell (p := ⟨w.heap.size, 2, none⟩) (Nat.le_refl _) _⟩
end Go.Proofs.YtfgmjdhoeilhcaaGreatDoor
