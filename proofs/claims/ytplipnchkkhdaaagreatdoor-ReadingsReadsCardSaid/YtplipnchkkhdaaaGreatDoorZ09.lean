/- Walks of layer 33: the function that Rules calls for each line, where the head word is not SELECT. -/
import Derived.Test.YtplipnchkkhdaaaGreatDoorZ07
namespace Go.Proofs.YtplipnchkkhdaaaGreatDoor
open Go.RowKit
set_option linter.unusedVariables false

set_option maxHeartbeats 16000000 in
set_option maxRecDepth 100000 in
theorem rules1_rem (base : Nat) (l : List Rul) (W : World) (L : ByteArray) (v : Value) (hb : W.heap[base]? = some (.cells #[v] 37 (0, 0))) (hL : RLst (base + 7) W v l) (hT : TabH W) (hsz : base + 7 ≤ W.heap.size) (hNG : 9 ≤ base) (hs : L.size ≤ 16384) (hsel : (cutEnd ((wordsL L.data.toList).headD []) 33).1 ≠ selB) :
    Calls Tryz.prog 56 #[.string L, .pointer (some ⟨base, 0, none⟩)] W (Par2 base l L.data.toList W) := by
  have HL := Lib.hid hL
  have HB := Lib.hid hb
  have p1 := fields_any L W (by omega)
  have hwl := words_len L.data.toList
  have hwm := words_mem L.data.toList
  have hwn := words_ne L.data.toList
  have HR : Hid (ruleRead atoiA L.data.toList = (let f := wordsL L.data.toList; let a := cutEnd (f.headD []) 33; let g := f.tail; if opens a.1 = true then none else match unqAll (g.take (opensAt g)), testsRead atoiA g.length (g.drop (opensAt g)) with
    | some t, some ts => some ⟨if a.1 = selB then 1 else 2, t, ts, a.2⟩
    | _, _ => none)) := rfl
  obtain ⟨w0, g, hw⟩ := List.exists_cons_of_ne_nil hwn
  rw [hw] at p1 hwl hwm HR hsel
  change (cutEnd w0 33).1 ≠ selB at hsel
  have hw0 := hwm w0 (by simp)
  have hgl : g.length ≤ 16384 := by
    rw [← Lib.size_eq] at hwl
    simp only [List.length_cons] at hwl
    omega
  obtain ⟨W0, hW0⟩ : ∃ A : ByteArray, (⟨w0.toArray⟩ : ByteArray) = A := ⟨_, rfl⟩
  obtain rfl : w0 = W0.data.toList := by rw [← hW0]
  have p2 := fun Wx => cutSuf_any W0 33 Wx (by rw [Lib.size_eq] at *; omega)
  have HR2 : Hid (ruleRead atoiA L.data.toList = (if opens (cutEnd W0.data.toList 33).1 = true then none else match unqAll (g.take (opensAt g)), testsRead atoiA g.length (g.drop (opensAt g)) with
    | some t, some ts => some ⟨if (cutEnd W0.data.toList 33).1 = selB then 1 else 2, t, ts, (cutEnd W0.data.toList 33).2⟩
    | _, _ => none)) := HR.out
  have l2 := cutEnd_len W0.data.toList 33
  generalize cutEnd W0.data.toList 33 = a at *
  obtain ⟨a1, a2⟩ := a
  obtain ⟨A1, hA1⟩ : ∃ A : ByteArray, (⟨a1.toArray⟩ : ByteArray) = A := ⟨_, rfl⟩
  obtain rfl : a1 = A1.data.toList := by rw [← hA1]
  dsimp only at *
  rw [hA1] at p2
  have hsb : (A1.toList == [83, 69, 76, 69, 67, 84]) = false := by
    rw [Lib.toList_data]
    simpa [selB] using hsel
  have HR3 : Hid (ruleRead atoiA L.data.toList = (if opens A1.data.toList = true then none else match unqAll (g.take (opensAt g)), testsRead atoiA g.length (g.drop (opensAt g)) with
    | some t, some ts => some ⟨2, t, ts, a2⟩
    | _, _ => none)) := by rw [Hid, HR2.out]; first | rw [if_pos hsel] | rw [if_neg hsel]
  clear HR hb hL hwn hw HR2 hsel
  have e1 : S A1.data.toList = .string A1 := rfl
  go_enter Tryz.func56, Tryz.ntmps56
  go_wp2_with fail
  refine p1.mono ?_
  rintro e W1 ⟨v1, rfl, hown, b1⟩
  obtain ⟨gF, cF, rfl, hgF1, hgF2⟩ := World.ownsRow.form hown (by simp)
  have hgc : ∀ j u, ((W0.data.toList :: g).map S)[j]? = some u → W1.cell? ⟨gF, j, none⟩ = some u := fun j u h => by
    have := World.ownsRow.cells hown (g := gF) rfl j u h
    have e : (⟨gF, 0, none⟩ : Addr).add j = ⟨gF, j, none⟩ := by unfold Addr.add; split <;> simp_all
    rwa [e] at this
  have hc0 : W1.cell? ⟨gF, 0, none⟩ = some (.string W0) := hgc 0 _ (by simp [S])
  have hfz := hown.frozenAt 0
  go_wp2_with fail
  refine (p2 _).mono ?_
  rintro e W2 ⟨rfl, rfl⟩
  go_wp2_with fail
  have hcF : g.length + 1 ≤ cF := by
    obtain ⟨A', c', e', h1, _⟩ := own_sl hown
    cases e'
    simpa using h1
  obtain ⟨W3, hW3⟩ : ∃ W3, W3 = (W1.setCell ⟨gF, 0, none⟩ (.string A1)).alloc (.cells #[.int .i64 2, .slice none 0 0, .slice none 0 0, .bool a2] 42) := ⟨_, rfl⟩
  rw [← hW3]
  have hz3 : W3.heap.size = W1.heap.size + 1 := by rw [hW3]; simp [World.setCell]
  have b3 : Below W.heap.size W W3 := by rw [hW3]; exact (b1.setCell (p := ⟨gF, 0, none⟩) hgF1 _).alloc (by simp [World.setCell]; exact b1.size) _
  have hr3 : W3.heap[W1.heap.size]? = some (.cells #[.int .i64 2, .slice none 0 0, .slice none 0 0, .bool a2] 42 (0, 0)) := by
    rw [hW3]
    have := heap_alloc_new (W1.setCell ⟨gF, 0, none⟩ (.string A1)) (.cells #[.int .i64 2, .slice none 0 0, .slice none 0 0, .bool a2] 42)
    simpa [World.setCell] using this
  have hown3 : W3.ownsRow W.heap.size 9 1 (.slice (some ⟨gF, 0, none⟩) (g.length + 1) cF) (g.length + 1) ((A1.data.toList :: g).map S) := by
    rw [hW3]
    have hu := hown
    unfold Own at hu
    rw [List.length_map, List.length_cons] at hu
    have h := (World.ownsRow.stored hu 0 (.string A1)).1
    exact World.ownsRow.alloc (by simpa [S] using h) _
  have hg3 : ∀ j u, ((A1.data.toList :: g).map S)[j]? = some u → W3.cell? ⟨gF, j, none⟩ = some u := fun j u h => by
    have := World.ownsRow.cells hown3 (g := gF) rfl j u h
    have e : (⟨gF, 0, none⟩ : Addr).add j = ⟨gF, j, none⟩ := by unfold Addr.add; split <;> simp_all
    rwa [e] at this
  have HG3 := Lib.hid hg3
  have hrow3 : RowAt W3 (some ⟨gF, 0, none⟩) ((A1.data.toList :: g).map S) := fun _ => ⟨gF, 0, rfl, by rw [hz3]; omega, fun j u h => by rw [Nat.zero_add]; exact hg3 j u h⟩
  have p3 := index_opens1 (some ⟨gF, 0, none⟩) cF (A1.data.toList :: g) W3 hrow3 (by simp only [List.length_cons]; omega)
  have hif := idxB_opens g
  have HI : Hid (idxB opens (A1.data.toList :: g) = if opens A1.data.toList = true then 0 else if idxB opens g < 0 then -1 else idxB opens g + 1) := rfl
  have p4 := need_yes
  have p5 := need_no
  have hib := (idxB_bd opens g).2.1
  have hgF3 : gF < W3.heap.size := by omega
  have hgr1 : gF ≠ W1.heap.size := by omega
  clear hgc hc0 hfz hW3 hg3 hrow3 hown
  cases ho : opens A1.data.toList with
  | true =>
    have HX : Hid (ruleStep atoiA l L.data.toList = none) := by
      unfold Hid ruleStep
      rw [HR3.out, if_pos ho]
    rw [HI.out, if_pos ho] at p3
    clear ho hif
    refine p3.mono ?_
    rintro e W4 ⟨rfl, b4⟩
    go_wp2_with fail
    refine (p5 _).mono ?_
    rintro e W5 ⟨rfl, rfl⟩
    unfold wrongP
    exact ⟨rfl, Par2.no HB.out HL.out HX.out (bstep b3 b4)⟩
  | false =>
    have HR4 : Hid (ruleRead atoiA L.data.toList = match unqAll (g.take (opensAt g)), testsRead atoiA g.length (g.drop (opensAt g)) with
      | some t, some ts => some ⟨2, t, ts, a2⟩
      | _, _ => none) := by rw [Hid, HR3.out, if_neg (by rw [ho]; decide)]
    rw [HI.out, if_neg (by rw [ho]; decide)] at p3
    clear ho HR3 HI
    by_cases hneg : idxB opens g < 0
    · rw [if_pos hneg] at p3 hif
      have HR5 : Hid (ruleRead atoiA L.data.toList = match unqAll g with
        | some t => some ⟨2, t, [], a2⟩
        | none => none) := by
        have hif' : opensAt g = g.length := by omega
        rw [Hid, HR4.out, hif', List.take_length, List.drop_length]
        cases unqAll g <;> simp [testsRead]
      clear hif hneg hib HR4
      have hc3 : cF = 1 ∧ g = [] ∨ ¬ cF = 1 := by
        by_cases h : cF = 1
        · exact Or.inl ⟨h, List.eq_nil_of_length_eq_zero (by omega)⟩
        · exact Or.inr h
      rcases hc3 with ⟨rfl, rfl⟩ | hcF1
      · skip
        refine p3.mono ?_
        rintro e W4 ⟨rfl, b4⟩
        go_wp2_with fail
        refine (p4 _).mono ?_
        rintro e W5 ⟨rfl, rfl⟩
        have b4' := bstep b3 b4
        have hr4 := (b4.block _ (by omega)).trans hr3
        have hlt4 : gF < W4.heap.size := by have := b4.size; omega
        have hrow4 : RowAt W4 (some ⟨gF, 0, none⟩) (([] : List Bs).map S) := fun hne => ⟨gF, 0, rfl, hlt4, fun j u h => by
          first
            | (exact absurd rfl hne)
            | (rw [Nat.add_comm]
               refine (b4.cell (p := ⟨gF, j + 1, none⟩) hgF3).trans (HG3.out (j + 1) u ?_)
               rw [List.map_cons, List.getElem?_cons_succ]
               exact h)⟩
        have p6 := unquotes_any (some ⟨gF, 0, none⟩) (0) [] W4 (hT.below b4').t hrow4 (by first | (simp; done) | omega) (fun x hx => by first | (cases hx; done) | (have := hwm x (List.mem_cons_of_mem _ hx); rw [← Lib.size_eq] at this; omega))
        try rw [List.length_nil] at p6
        unfold UnqPost at p6
        clear hrow4
        go_wp2_with fail
        refine p6.mono ?_
        rintro e W6 ⟨h1, h2⟩
        cases hq : unqAll [] with
        | none =>
          obtain ⟨rfl, b6⟩ := h2 hq
          have HX : Hid (ruleStep atoiA l L.data.toList = none) := by
            unfold Hid ruleStep
            rw [HR5.out, hq]
          unfold wrongP
          exact ⟨rfl, Par2.no HB.out HL.out HX.out (bstep b4' b6)⟩
        | some tg =>
          obtain ⟨v2, rfl, hown6, b6⟩ := h1 tg hq
          have htl := unqAll_len hq
          have HQ5 := Lib.hid hq
          have htg0 : tg.length ≤ 16384 := by rw [htl]; first | (simp; done) | omega
          have HTL0 := Lib.hid htl
          clear hq htl
          obtain ⟨At, ct, rfl, hct, hrt⟩ := hown6.row.to (n := tg.length) (by simp)
          have hz4 := lt_of_block hr4
          have hr6 := (b6.block _ (by omega)).trans hr4
          have k10 := cell_of_row W6 W1.heap.size 1 _ _ (0, 0) hr6
          have f10 := fzB hr6 1
          have hz6 : W1.heap.size < W6.heap.size := lt_of_block hr6
          have hgF6 : gF < W6.heap.size := by have := b6.size; omega
          simp at k10
          clear h1 h2 p1 p2 p3 p6
          go_wp2_with fail
          all_goals
            obtain ⟨W7, hW7⟩ : ∃ W7, W7 = W6.setCell ⟨W1.heap.size, 1, none⟩ (.slice At tg.length ct) := ⟨_, rfl⟩
            rw [← hW7]
            have hz7 : W7.heap.size = W6.heap.size := by rw [hW7]; simp [World.setCell]
            have hr7 : W7.heap[W1.heap.size]? = some (.cells #[.int .i64 2, .slice At tg.length ct, .slice none 0 0, .bool a2] 42 (0, 0)) := by
              rw [hW7, heap_setCell_row hr6]; rfl
            have b7 : Below W.heap.size W W7 := by rw [hW7]; exact (bstep b4' b6).setCell (p := ⟨W1.heap.size, 1, none⟩) b1.size _
            have HOWT : Hid (W7.ownsRow W4.heap.size 9 1 (.slice At tg.length ct) tg.length (tg.map S)) := by
              have hu := hown6
              unfold Own at hu
              rw [List.length_map] at hu
              have hcs := chg_setCell W6 W1.heap.size 1 (.slice At tg.length ct)
              rw [← hW7] at hcs
              exact own_chg hu hcs fun g hg e => by have := (hu.lt g hg).1; omega
            have hW47 : W4.heap.size ≤ W7.heap.size := by have := b6.size; omega
            have htgt : Hid (Firm (fun b => b = W1.heap.size ∨ W7.heap.size ≤ b) W7 (fun w => StrsV w (.slice At tg.length ct) tg)) := by
              have := own_firm (X := fun b => b = W1.heap.size ∨ W7.heap.size ≤ b) HOWT.out fun g hg e => by
                have := HOWT.out.lt g hg
                rcases e with e | e <;> omega
              rw [Hid]
              unfold StrsV
              exact this
            clear hW7 hr6 k10 f10 hown6 hrt hr4 hr3 HG3
            go_loopw [3] (fun f wr => ∃ (o cy : Nat) (done : List Tst) (xv : Value), f = .slice (some ⟨gF, o, none⟩) 0 cy ∧ done = [] ∧
                Hid (wr.heap[W1.heap.size]? = some (.cells #[.int .i64 2, .slice At tg.length ct, xv, .bool a2] 42 (0, 0))) ∧ Hid (TLst W7.heap.size wr xv done) ∧ Hid (Chg (fun b => b = W1.heap.size ∨ W7.heap.size ≤ b) W7 wr)) (fun f _ => match f with | .slice _ n _ => n | _ => 0)
            case atStart => exact ⟨_, _, [], .slice none 0 0, rfl, rfl, hr7, RowL.nil _ _ rfl, Chg.refl _ _⟩
            case round =>
              obtain ⟨o, cy, done, xv, rfl, hdone, HRB, HTL, HCH⟩ := hrel
              have bR : Below W.heap.size W wr := b7.trans ((HCH.out.mono fun b hb e => by rcases e with e | e <;> omega).below (B := W.heap.size) (by have := b7.size; omega))
              have HDN : Hid (done.length ≤ 0 ∧ ∀ t ∈ done, t.tags.length ≤ 20000 ∧ t.barrier.length ≤ 20000) := by rw [hdone, Hid]; simp
              have hRR : Hid (ruleRead atoiA L.data.toList = some ⟨2, tg, done, a2⟩) := by rw [Hid, HR5.out, HQ5.out, hdone]
              clear hdone hr7
              obtain ⟨Ax, cx, rfl, hcx, _⟩ := (RowL.form HTL.out)
              have k0 := cell_of_row wr W1.heap.size 0 _ _ (0, 0) HRB.out
              have k1 := cell_of_row wr W1.heap.size 1 _ _ (0, 0) HRB.out
              have k2 := cell_of_row wr W1.heap.size 2 _ _ (0, 0) HRB.out
              have k3 := cell_of_row wr W1.heap.size 3 _ _ (0, 0) HRB.out
              simp at k0 k1 k2 k3
              have hTg : StrsV wr (.slice At tg.length ct) tg := htgt.out wr HCH.out.size HCH.out.block
              have hRV : Hid (RulV wr (.slice At tg.length ct, .slice Ax done.length cx) ⟨2, tg, done, a2⟩) := ⟨hTg, HTL.out.tsts⟩
              have hSz : SizedR ⟨2, tg, done, a2⟩ := ⟨by show tg.length ≤ _; omega, by show done.length ≤ _; have := HDN.out.1; omega, fun t ht => by have := HDN.out.2 t ht; omega⟩
              have p7 := vrule_any ⟨2, tg, done, a2⟩ At Ax ct cx wr (hT.below bR).t hRV.out hSz
              clear hTg hSz
              dsimp only at p7
              cases hok : rulOk ⟨2, tg, done, a2⟩ with
              | false =>
                have HX : Hid (ruleStep atoiA l L.data.toList = none) := by
                  unfold Hid ruleStep
                  rw [hRR.out]
                  simp only [hok, Bool.false_eq_true, false_and, if_false]
                rw [hok] at p7
                clear hok
                go_wp2_with fail
                refine p7.mono ?_
                rintro e W8 ⟨rfl, b8⟩
                go_wp2_with fail
                refine (p5 _).mono ?_
                rintro e W9 ⟨rfl, rfl⟩
                unfold wrongP
                exact ⟨rfl, Par2.no HB.out HL.out HX.out (bstep bR b8)⟩
              | true =>
                rw [hok] at p7
                have HOK := Lib.hid hok
                have p8 := fun (W8 : World) (b8 : Below wr.heap.size wr W8) => rule_any ⟨2, tg, done, a2⟩ At Ax ct cx W8 (hT.below (bstep bR b8)) (hRV.out.below b8) HOK.out
                dsimp only at p8
                obtain ⟨Q, hQ⟩ : ∃ Q : ByteArray, (⟨(ruleL ⟨2, tg, done, a2⟩).toArray⟩ : ByteArray) = Q := ⟨_, rfl⟩
                have hQd : Q.data.toList = ruleL ⟨2, tg, done, a2⟩ := by rw [← hQ]
                rw [hQ] at p8
                have HQD := Lib.hid hQd
                have hk8 : Hid (∀ W8, Below wr.heap.size wr W8 → W8.heap[W1.heap.size]? = some (.cells #[.int .i64 2, .slice At tg.length ct, .slice Ax done.length cx, .bool a2] 42 (0, 0))) := fun W8 b8 => (b8.block _ (lt_of_block HRB.out)).trans HRB.out
                clear hok hQ hQd
                by_cases hQL : Q = L
                · subst hQL
                  obtain ⟨xs, hx1, hx2, hx3⟩ := HL.out
                  obtain ⟨A, cv, rfl, hcv, _⟩ := own_sl hx2
                  have hb2 : (Q.toList == Q.toList) = true := by simp
                  have HX : Hid (ruleStep atoiA l Q.data.toList = if l.length < 100 then some (l ++ [⟨2, tg, done, a2⟩]) else none) := by
                    unfold Hid ruleStep
                    rw [hRR.out]
                    simp only [HOK.out, HQD.out, true_and]
                  have HX12 := Lib.hid (And.intro hx2 hx3)
                  have HXL := Lib.hid hx1
                  clear hx1 hx2 hx3
                  by_cases h100 : l.length < 100
                  · have d100 : (l.length : Int) < 100 := by omega
                    have HX3 : Hid (ruleStep atoiA l Q.data.toList = some (l ++ [⟨2, tg, done, a2⟩])) := by rw [Hid, HX.out, if_pos h100]
                    go_wp2_with fail
                    refine p7.mono ?_
                    rintro e W8 ⟨rfl, b8⟩
                    have p9 := p8 W8 b8
                    have hr8 := hk8.out W8 b8
                    have m0 := cell_of_row W8 W1.heap.size 0 _ _ (0, 0) hr8
                    have m1 := cell_of_row W8 W1.heap.size 1 _ _ (0, 0) hr8
                    have m2 := cell_of_row W8 W1.heap.size 2 _ _ (0, 0) hr8
                    have m3 := cell_of_row W8 W1.heap.size 3 _ _ (0, 0) hr8
                    simp at m0 m1 m2 m3
                    clear hr8 p8
                    go_wp2_with fail
                    refine p9.mono ?_
                    rintro e W9 ⟨rfl, b9⟩
                    have bR9 := bstep (bstep bR b8) b9
                    have hbb := (bR9.block base (by omega)).trans HB.out
                    have hc9 := cell_of_one hbb
                    have hr9 := (b9.block _ (lt_of_block (hk8.out W8 b8))).trans (hk8.out W8 b8)
                    have n0 := cell_of_row W9 W1.heap.size 0 _ _ (0, 0) hr9
                    have n1 := cell_of_row W9 W1.heap.size 1 _ _ (0, 0) hr9
                    have n2 := cell_of_row W9 W1.heap.size 2 _ _ (0, 0) hr9
                    have n3 := cell_of_row W9 W1.heap.size 3 _ _ (0, 0) hr9
                    simp at n0 n1 n2 n3
                    clear m0 m1 m2 m3
                    go_wp2_with fail
                    refine (p4 _).mono ?_
                    rintro e WA ⟨rfl, rfl⟩
                    have bT : Below W.heap.size W (W9.alloc (.cells #[.int .i64 2, .slice At tg.length ct, .slice Ax done.length cx, .bool a2] 42)) := bR9.alloc bR9.size _
                    have hown3 : (W9.alloc (.cells #[.int .i64 2, .slice At tg.length ct, .slice Ax done.length cx, .bool a2] 42)).ownsRow (base + 7) 42 4 (.slice A l.length cv) l.length (rulCells l xs) := own_chg HX12.out.1 (Chg.of_new (X := fun _ => False) bT) (fun _ _ e => e)
                    have hblk3 : Hid ((W9.alloc (.cells #[.int .i64 2, .slice At tg.length ct, .slice Ax done.length cx, .bool a2] 42)).heap[base]? = some (.cells #[.slice A l.length cv] 37 (0, 0))) := (bT.block base (by omega)).trans HB.out
                    have hnews := World.news_of_block (heap_alloc_new W9 (.cells #[.int .i64 2, .slice At tg.length ct, .slice Ax done.length cx, .bool a2] 42))
                    have h63 : l.length + 1 ≤ maxLen := by unfold maxLen; omega
                    have hby : (l.length + 1) * 64 ≤ 140737488355328 := by omega
                    have hbase : base + 7 ≤ (W9.alloc (.cells #[.int .i64 2, .slice At tg.length ct, .slice Ax done.length cx, .bool a2] 42)).heap.size := by have := bT.size; omega
                    obtain ⟨ic, ci, cz0, cz1, cz2⟩ := info_parts rulInfo
                    go_wp2_with (at_builtin; refine wpList_append_lies _ rfl (.tmp 126) (.tmp 128) 37 rfl (base + 7) 42 ic _ 4 64 Tryz.underlying37 ci cz0 cz1 cz2 rfl (by decide) _ l.length (rulCells l xs) rfl hown3 ⟨W9.heap.size, 0, none⟩ 1 1 [.int .i64 2, .slice At tg.length ct, .slice Ax done.length cx, .bool a2] rfl rfl hnews (by simp [Value.oneCell']) (by decide) h63 hby hbase (W9.heap.size + 1) (by simp) ?_; intro g2 cap w5 hown5 hgr5 hat5 hlt5; have hb5 : w5.heap[base]? = some (.cells #[.slice A l.length cv] 37 (0, 0)) := (hgr5.block base (lt_of_block hblk3.out) (fun e => by have := (hown3.lt base e.symm).1; omega)).trans hblk3.out; have hc5 := cell_of_one hb5; have hf5 := free_of_one hb5)
                    refine bodyPost_ret (results_none rfl _ _ _) rfl ?_
                    have c5 := chg_setCell w5 base 0 (.slice (some ⟨g2, 0, none⟩) (l.length + 1) cap)
                    have hp : Firm (fun b => b < base + 7 ∨ (Value.slice A l.length cv).ownBlock = some b) (W9.alloc (.cells #[.int .i64 2, .slice At tg.length ct, .slice Ax done.length cx, .bool a2] 42)) (fun w => RulV w (.slice At tg.length ct, .slice Ax done.length cx) ⟨2, tg, done, a2⟩) := by
                      have bX : Below wr.heap.size wr (W9.alloc (.cells #[.int .i64 2, .slice At tg.length ct, .slice Ax done.length cx, .bool a2] 42)) := (bstep b8 b9).alloc (bstep b8 b9).size _
                      have cX := HCH.out.trans (Chg.of_new (X := fun _ => False) bX) fun _ _ e => e.elim
                      have hv : ∀ g, (Value.slice A l.length cv).ownBlock = some g → g < W.heap.size := fun g hg => (HX12.out.1.lt g hg).2
                      have h7W := b7.size
                      have h4W := b4'.size
                      refine ((own_firm (own_chg HOWT.out cX fun g hg e => ?_) fun g hg e => ?_).and (RowL.firm (RowL.chg HTL.out (Chg.of_new (X := fun _ => False) bX) fun _ _ e => e.elim) fun b hb e => ?_)).mono fun w h => ⟨h.1, h.2⟩
                      · have := HOWT.out.lt g hg
                        rcases e with e | e <;> omega
                      · have := HOWT.out.lt g hg
                        rcases e with e | e
                        · omega
                        · have := hv g e; omega
                      · rcases e with e | e
                        · omega
                        · have := hv b e; omega
                    have hl5 : RLst (base + 7) w5 (.slice (some ⟨g2, 0, none⟩) (l.length + 1) cap) (l ++ [⟨2, tg, done, a2⟩]) := RowL.add (p := (.slice At tg.length ct, .slice Ax done.length cx)) HXL.out hown3 (HX12.out.2.step (Chg.of_new (X := fun _ => False) bT) (fun _ _ e => e.elim) (fun _ _ e => e)) hp (rulCells_snoc l xs ⟨2, tg, done, a2⟩ (.slice At tg.length ct, .slice Ax done.length cx) HXL.out) hown5 hgr5 (hat5.imp id fun e => by rw [e]; simp)
                    refine ⟨((Chg.of_new bT).trans (Chg.of_grown hgr5) fun b hb e => Or.inr ?_).trans c5 fun b _ e => Or.inl e, Or.inl ⟨_, HX3.out, rfl, _, one_setCell hb5, hl5.chg c5 fun b _ e => by omega⟩⟩
                    exact (hown3.lt b e).1
                  · have d100 : decide ((l.length : Int) < 100) = false := decide_eq_false (by omega)
                    have HX3 : Hid (ruleStep atoiA l Q.data.toList = none) := by rw [Hid, HX.out, if_neg h100]
                    go_wp2_with fail
                    refine p7.mono ?_
                    rintro e W8 ⟨rfl, b8⟩
                    have p9 := p8 W8 b8
                    have hr8 := hk8.out W8 b8
                    have m0 := cell_of_row W8 W1.heap.size 0 _ _ (0, 0) hr8
                    have m1 := cell_of_row W8 W1.heap.size 1 _ _ (0, 0) hr8
                    have m2 := cell_of_row W8 W1.heap.size 2 _ _ (0, 0) hr8
                    have m3 := cell_of_row W8 W1.heap.size 3 _ _ (0, 0) hr8
                    simp at m0 m1 m2 m3
                    clear hr8 p8
                    go_wp2_with fail
                    refine p9.mono ?_
                    rintro e W9 ⟨rfl, b9⟩
                    have bR9 := bstep (bstep bR b8) b9
                    have hbb := (bR9.block base (by omega)).trans HB.out
                    have hc9 := cell_of_one hbb
                    have hr9 := (b9.block _ (lt_of_block (hk8.out W8 b8))).trans (hk8.out W8 b8)
                    have n0 := cell_of_row W9 W1.heap.size 0 _ _ (0, 0) hr9
                    have n1 := cell_of_row W9 W1.heap.size 1 _ _ (0, 0) hr9
                    have n2 := cell_of_row W9 W1.heap.size 2 _ _ (0, 0) hr9
                    have n3 := cell_of_row W9 W1.heap.size 3 _ _ (0, 0) hr9
                    simp at n0 n1 n2 n3
                    clear m0 m1 m2 m3
                    go_wp2_with fail
                    refine (p5 _).mono ?_
                    rintro e WA ⟨rfl, rfl⟩
                    unfold wrongP
                    exact ⟨rfl, Par2.no HB.out HL.out HX3.out bR9⟩
                · have HX : Hid (ruleStep atoiA l L.data.toList = none) := by
                    unfold Hid ruleStep
                    rw [hRR.out]
                    simp only [HOK.out, true_and]
                    rw [if_neg]
                    rintro ⟨h, _⟩
                    exact hQL (ba_ext (HQD.out.trans h))
                  have hb2 := ba_ne hQL
                  go_wp2_with fail
                  refine p7.mono ?_
                  rintro e W8 ⟨rfl, b8⟩
                  have p9 := p8 W8 b8
                  have hr8 := hk8.out W8 b8
                  have m0 := cell_of_row W8 W1.heap.size 0 _ _ (0, 0) hr8
                  have m1 := cell_of_row W8 W1.heap.size 1 _ _ (0, 0) hr8
                  have m2 := cell_of_row W8 W1.heap.size 2 _ _ (0, 0) hr8
                  have m3 := cell_of_row W8 W1.heap.size 3 _ _ (0, 0) hr8
                  simp at m0 m1 m2 m3
                  clear hr8 p8
                  go_wp2_with fail
                  refine p9.mono ?_
                  rintro e W9 ⟨rfl, b9⟩
                  go_wp2_with fail
                  refine (p5 _).mono ?_
                  rintro e WA ⟨rfl, rfl⟩
                  unfold wrongP
                  exact ⟨rfl, Par2.no HB.out HL.out HX.out (bstep (bstep bR b8) b9)⟩
      · have hcF2 : ¬ (cF - 1 = 0) := by omega
        refine p3.mono ?_
        rintro e W4 ⟨rfl, b4⟩
        go_wp2_with fail
        refine (p4 _).mono ?_
        rintro e W5 ⟨rfl, rfl⟩
        have b4' := bstep b3 b4
        have hr4 := (b4.block _ (by omega)).trans hr3
        have hlt4 : gF < W4.heap.size := by have := b4.size; omega
        have hrow4 : RowAt W4 (some ⟨gF, 1, none⟩) ((g : List Bs).map S) := fun hne => ⟨gF, 1, rfl, hlt4, fun j u h => by
          first
            | (exact absurd rfl hne)
            | (rw [Nat.add_comm]
               refine (b4.cell (p := ⟨gF, j + 1, none⟩) hgF3).trans (HG3.out (j + 1) u ?_)
               rw [List.map_cons, List.getElem?_cons_succ]
               exact h)⟩
        have p6 := unquotes_any (some ⟨gF, 1, none⟩) (cF - 1) g W4 (hT.below b4').t hrow4 (by first | (simp; done) | omega) (fun x hx => by first | (cases hx; done) | (have := hwm x (List.mem_cons_of_mem _ hx); rw [← Lib.size_eq] at this; omega))
        try rw [List.length_nil] at p6
        unfold UnqPost at p6
        clear hrow4
        go_wp2_with fail
        refine p6.mono ?_
        rintro e W6 ⟨h1, h2⟩
        cases hq : unqAll g with
        | none =>
          obtain ⟨rfl, b6⟩ := h2 hq
          have HX : Hid (ruleStep atoiA l L.data.toList = none) := by
            unfold Hid ruleStep
            rw [HR5.out, hq]
          unfold wrongP
          exact ⟨rfl, Par2.no HB.out HL.out HX.out (bstep b4' b6)⟩
        | some tg =>
          obtain ⟨v2, rfl, hown6, b6⟩ := h1 tg hq
          have htl := unqAll_len hq
          have HQ5 := Lib.hid hq
          have htg0 : tg.length ≤ 16384 := by rw [htl]; first | (simp; done) | omega
          have HTL0 := Lib.hid htl
          clear hq htl
          obtain ⟨At, ct, rfl, hct, hrt⟩ := hown6.row.to (n := tg.length) (by simp)
          have hz4 := lt_of_block hr4
          have hr6 := (b6.block _ (by omega)).trans hr4
          have k10 := cell_of_row W6 W1.heap.size 1 _ _ (0, 0) hr6
          have f10 := fzB hr6 1
          have hz6 : W1.heap.size < W6.heap.size := lt_of_block hr6
          have hgF6 : gF < W6.heap.size := by have := b6.size; omega
          simp at k10
          clear h1 h2 p1 p2 p3 p6
          go_wp2_with fail
          all_goals
            obtain ⟨W7, hW7⟩ : ∃ W7, W7 = W6.setCell ⟨W1.heap.size, 1, none⟩ (.slice At tg.length ct) := ⟨_, rfl⟩
            rw [← hW7]
            have hz7 : W7.heap.size = W6.heap.size := by rw [hW7]; simp [World.setCell]
            have hr7 : W7.heap[W1.heap.size]? = some (.cells #[.int .i64 2, .slice At tg.length ct, .slice none 0 0, .bool a2] 42 (0, 0)) := by
              rw [hW7, heap_setCell_row hr6]; rfl
            have b7 : Below W.heap.size W W7 := by rw [hW7]; exact (bstep b4' b6).setCell (p := ⟨W1.heap.size, 1, none⟩) b1.size _
            have HOWT : Hid (W7.ownsRow W4.heap.size 9 1 (.slice At tg.length ct) tg.length (tg.map S)) := by
              have hu := hown6
              unfold Own at hu
              rw [List.length_map] at hu
              have hcs := chg_setCell W6 W1.heap.size 1 (.slice At tg.length ct)
              rw [← hW7] at hcs
              exact own_chg hu hcs fun g hg e => by have := (hu.lt g hg).1; omega
            have hW47 : W4.heap.size ≤ W7.heap.size := by have := b6.size; omega
            have htgt : Hid (Firm (fun b => b = W1.heap.size ∨ W7.heap.size ≤ b) W7 (fun w => StrsV w (.slice At tg.length ct) tg)) := by
              have := own_firm (X := fun b => b = W1.heap.size ∨ W7.heap.size ≤ b) HOWT.out fun g hg e => by
                have := HOWT.out.lt g hg
                rcases e with e | e <;> omega
              rw [Hid]
              unfold StrsV
              exact this
            clear hW7 hr6 k10 f10 hown6 hrt hr4 hr3 HG3
            go_loopw [3] (fun f wr => ∃ (o cy : Nat) (done : List Tst) (xv : Value), f = .slice (some ⟨gF, o, none⟩) 0 cy ∧ done = [] ∧
                Hid (wr.heap[W1.heap.size]? = some (.cells #[.int .i64 2, .slice At tg.length ct, xv, .bool a2] 42 (0, 0))) ∧ Hid (TLst W7.heap.size wr xv done) ∧ Hid (Chg (fun b => b = W1.heap.size ∨ W7.heap.size ≤ b) W7 wr)) (fun f _ => match f with | .slice _ n _ => n | _ => 0)
            case atStart => exact ⟨_, _, [], .slice none 0 0, rfl, rfl, hr7, RowL.nil _ _ rfl, Chg.refl _ _⟩
            case round =>
              obtain ⟨o, cy, done, xv, rfl, hdone, HRB, HTL, HCH⟩ := hrel
              have bR : Below W.heap.size W wr := b7.trans ((HCH.out.mono fun b hb e => by rcases e with e | e <;> omega).below (B := W.heap.size) (by have := b7.size; omega))
              have HDN : Hid (done.length ≤ 0 ∧ ∀ t ∈ done, t.tags.length ≤ 20000 ∧ t.barrier.length ≤ 20000) := by rw [hdone, Hid]; simp
              have hRR : Hid (ruleRead atoiA L.data.toList = some ⟨2, tg, done, a2⟩) := by rw [Hid, HR5.out, HQ5.out, hdone]
              clear hdone hr7
              obtain ⟨Ax, cx, rfl, hcx, _⟩ := (RowL.form HTL.out)
              have k0 := cell_of_row wr W1.heap.size 0 _ _ (0, 0) HRB.out
              have k1 := cell_of_row wr W1.heap.size 1 _ _ (0, 0) HRB.out
              have k2 := cell_of_row wr W1.heap.size 2 _ _ (0, 0) HRB.out
              have k3 := cell_of_row wr W1.heap.size 3 _ _ (0, 0) HRB.out
              simp at k0 k1 k2 k3
              have hTg : StrsV wr (.slice At tg.length ct) tg := htgt.out wr HCH.out.size HCH.out.block
              have hRV : Hid (RulV wr (.slice At tg.length ct, .slice Ax done.length cx) ⟨2, tg, done, a2⟩) := ⟨hTg, HTL.out.tsts⟩
              have hSz : SizedR ⟨2, tg, done, a2⟩ := ⟨by show tg.length ≤ _; omega, by show done.length ≤ _; have := HDN.out.1; omega, fun t ht => by have := HDN.out.2 t ht; omega⟩
              have p7 := vrule_any ⟨2, tg, done, a2⟩ At Ax ct cx wr (hT.below bR).t hRV.out hSz
              clear hTg hSz
              dsimp only at p7
              cases hok : rulOk ⟨2, tg, done, a2⟩ with
              | false =>
                have HX : Hid (ruleStep atoiA l L.data.toList = none) := by
                  unfold Hid ruleStep
                  rw [hRR.out]
                  simp only [hok, Bool.false_eq_true, false_and, if_false]
                rw [hok] at p7
                clear hok
                go_wp2_with fail
                refine p7.mono ?_
                rintro e W8 ⟨rfl, b8⟩
                go_wp2_with fail
                refine (p5 _).mono ?_
                rintro e W9 ⟨rfl, rfl⟩
                unfold wrongP
                exact ⟨rfl, Par2.no HB.out HL.out HX.out (bstep bR b8)⟩
              | true =>
                rw [hok] at p7
                have HOK := Lib.hid hok
                have p8 := fun (W8 : World) (b8 : Below wr.heap.size wr W8) => rule_any ⟨2, tg, done, a2⟩ At Ax ct cx W8 (hT.below (bstep bR b8)) (hRV.out.below b8) HOK.out
                dsimp only at p8
                obtain ⟨Q, hQ⟩ : ∃ Q : ByteArray, (⟨(ruleL ⟨2, tg, done, a2⟩).toArray⟩ : ByteArray) = Q := ⟨_, rfl⟩
                have hQd : Q.data.toList = ruleL ⟨2, tg, done, a2⟩ := by rw [← hQ]
                rw [hQ] at p8
                have HQD := Lib.hid hQd
                have hk8 : Hid (∀ W8, Below wr.heap.size wr W8 → W8.heap[W1.heap.size]? = some (.cells #[.int .i64 2, .slice At tg.length ct, .slice Ax done.length cx, .bool a2] 42 (0, 0))) := fun W8 b8 => (b8.block _ (lt_of_block HRB.out)).trans HRB.out
                clear hok hQ hQd
                by_cases hQL : Q = L
                · subst hQL
                  obtain ⟨xs, hx1, hx2, hx3⟩ := HL.out
                  obtain ⟨A, cv, rfl, hcv, _⟩ := own_sl hx2
                  have hb2 : (Q.toList == Q.toList) = true := by simp
                  have HX : Hid (ruleStep atoiA l Q.data.toList = if l.length < 100 then some (l ++ [⟨2, tg, done, a2⟩]) else none) := by
                    unfold Hid ruleStep
                    rw [hRR.out]
                    simp only [HOK.out, HQD.out, true_and]
                  have HX12 := Lib.hid (And.intro hx2 hx3)
                  have HXL := Lib.hid hx1
                  clear hx1 hx2 hx3
                  by_cases h100 : l.length < 100
                  · have d100 : (l.length : Int) < 100 := by omega
                    have HX3 : Hid (ruleStep atoiA l Q.data.toList = some (l ++ [⟨2, tg, done, a2⟩])) := by rw [Hid, HX.out, if_pos h100]
                    go_wp2_with fail
                    refine p7.mono ?_
                    rintro e W8 ⟨rfl, b8⟩
                    have p9 := p8 W8 b8
                    have hr8 := hk8.out W8 b8
                    have m0 := cell_of_row W8 W1.heap.size 0 _ _ (0, 0) hr8
                    have m1 := cell_of_row W8 W1.heap.size 1 _ _ (0, 0) hr8
                    have m2 := cell_of_row W8 W1.heap.size 2 _ _ (0, 0) hr8
                    have m3 := cell_of_row W8 W1.heap.size 3 _ _ (0, 0) hr8
                    simp at m0 m1 m2 m3
                    clear hr8 p8
                    go_wp2_with fail
                    refine p9.mono ?_
                    rintro e W9 ⟨rfl, b9⟩
                    have bR9 := bstep (bstep bR b8) b9
                    have hbb := (bR9.block base (by omega)).trans HB.out
                    have hc9 := cell_of_one hbb
                    have hr9 := (b9.block _ (lt_of_block (hk8.out W8 b8))).trans (hk8.out W8 b8)
                    have n0 := cell_of_row W9 W1.heap.size 0 _ _ (0, 0) hr9
                    have n1 := cell_of_row W9 W1.heap.size 1 _ _ (0, 0) hr9
                    have n2 := cell_of_row W9 W1.heap.size 2 _ _ (0, 0) hr9
                    have n3 := cell_of_row W9 W1.heap.size 3 _ _ (0, 0) hr9
                    simp at n0 n1 n2 n3
                    clear m0 m1 m2 m3
                    go_wp2_with fail
                    refine (p4 _).mono ?_
                    rintro e WA ⟨rfl, rfl⟩
                    have bT : Below W.heap.size W (W9.alloc (.cells #[.int .i64 2, .slice At tg.length ct, .slice Ax done.length cx, .bool a2] 42)) := bR9.alloc bR9.size _
                    have hown3 : (W9.alloc (.cells #[.int .i64 2, .slice At tg.length ct, .slice Ax done.length cx, .bool a2] 42)).ownsRow (base + 7) 42 4 (.slice A l.length cv) l.length (rulCells l xs) := own_chg HX12.out.1 (Chg.of_new (X := fun _ => False) bT) (fun _ _ e => e)
                    have hblk3 : Hid ((W9.alloc (.cells #[.int .i64 2, .slice At tg.length ct, .slice Ax done.length cx, .bool a2] 42)).heap[base]? = some (.cells #[.slice A l.length cv] 37 (0, 0))) := (bT.block base (by omega)).trans HB.out
                    have hnews := World.news_of_block (heap_alloc_new W9 (.cells #[.int .i64 2, .slice At tg.length ct, .slice Ax done.length cx, .bool a2] 42))
                    have h63 : l.length + 1 ≤ maxLen := by unfold maxLen; omega
                    have hby : (l.length + 1) * 64 ≤ 140737488355328 := by omega
                    have hbase : base + 7 ≤ (W9.alloc (.cells #[.int .i64 2, .slice At tg.length ct, .slice Ax done.length cx, .bool a2] 42)).heap.size := by have := bT.size; omega
                    obtain ⟨ic, ci, cz0, cz1, cz2⟩ := info_parts rulInfo
                    go_wp2_with (at_builtin; refine wpList_append_lies _ rfl (.tmp 126) (.tmp 128) 37 rfl (base + 7) 42 ic _ 4 64 Tryz.underlying37 ci cz0 cz1 cz2 rfl (by decide) _ l.length (rulCells l xs) rfl hown3 ⟨W9.heap.size, 0, none⟩ 1 1 [.int .i64 2, .slice At tg.length ct, .slice Ax done.length cx, .bool a2] rfl rfl hnews (by simp [Value.oneCell']) (by decide) h63 hby hbase (W9.heap.size + 1) (by simp) ?_; intro g2 cap w5 hown5 hgr5 hat5 hlt5; have hb5 : w5.heap[base]? = some (.cells #[.slice A l.length cv] 37 (0, 0)) := (hgr5.block base (lt_of_block hblk3.out) (fun e => by have := (hown3.lt base e.symm).1; omega)).trans hblk3.out; have hc5 := cell_of_one hb5; have hf5 := free_of_one hb5)
                    refine bodyPost_ret (results_none rfl _ _ _) rfl ?_
                    have c5 := chg_setCell w5 base 0 (.slice (some ⟨g2, 0, none⟩) (l.length + 1) cap)
                    have hp : Firm (fun b => b < base + 7 ∨ (Value.slice A l.length cv).ownBlock = some b) (W9.alloc (.cells #[.int .i64 2, .slice At tg.length ct, .slice Ax done.length cx, .bool a2] 42)) (fun w => RulV w (.slice At tg.length ct, .slice Ax done.length cx) ⟨2, tg, done, a2⟩) := by
                      have bX : Below wr.heap.size wr (W9.alloc (.cells #[.int .i64 2, .slice At tg.length ct, .slice Ax done.length cx, .bool a2] 42)) := (bstep b8 b9).alloc (bstep b8 b9).size _
                      have cX := HCH.out.trans (Chg.of_new (X := fun _ => False) bX) fun _ _ e => e.elim
                      have hv : ∀ g, (Value.slice A l.length cv).ownBlock = some g → g < W.heap.size := fun g hg => (HX12.out.1.lt g hg).2
                      have h7W := b7.size
                      have h4W := b4'.size
                      refine ((own_firm (own_chg HOWT.out cX fun g hg e => ?_) fun g hg e => ?_).and (RowL.firm (RowL.chg HTL.out (Chg.of_new (X := fun _ => False) bX) fun _ _ e => e.elim) fun b hb e => ?_)).mono fun w h => ⟨h.1, h.2⟩
                      · have := HOWT.out.lt g hg
                        rcases e with e | e <;> omega
                      · have := HOWT.out.lt g hg
                        rcases e with e | e
                        · omega
                        · have := hv g e; omega
                      · rcases e with e | e
                        · omega
                        · have := hv b e; omega
                    have hl5 : RLst (base + 7) w5 (.slice (some ⟨g2, 0, none⟩) (l.length + 1) cap) (l ++ [⟨2, tg, done, a2⟩]) := RowL.add (p := (.slice At tg.length ct, .slice Ax done.length cx)) HXL.out hown3 (HX12.out.2.step (Chg.of_new (X := fun _ => False) bT) (fun _ _ e => e.elim) (fun _ _ e => e)) hp (rulCells_snoc l xs ⟨2, tg, done, a2⟩ (.slice At tg.length ct, .slice Ax done.length cx) HXL.out) hown5 hgr5 (hat5.imp id fun e => by rw [e]; simp)
                    refine ⟨((Chg.of_new bT).trans (Chg.of_grown hgr5) fun b hb e => Or.inr ?_).trans c5 fun b _ e => Or.inl e, Or.inl ⟨_, HX3.out, rfl, _, one_setCell hb5, hl5.chg c5 fun b _ e => by omega⟩⟩
                    exact (hown3.lt b e).1
                  · have d100 : decide ((l.length : Int) < 100) = false := decide_eq_false (by omega)
                    have HX3 : Hid (ruleStep atoiA l Q.data.toList = none) := by rw [Hid, HX.out, if_neg h100]
                    go_wp2_with fail
                    refine p7.mono ?_
                    rintro e W8 ⟨rfl, b8⟩
                    have p9 := p8 W8 b8
                    have hr8 := hk8.out W8 b8
                    have m0 := cell_of_row W8 W1.heap.size 0 _ _ (0, 0) hr8
                    have m1 := cell_of_row W8 W1.heap.size 1 _ _ (0, 0) hr8
                    have m2 := cell_of_row W8 W1.heap.size 2 _ _ (0, 0) hr8
                    have m3 := cell_of_row W8 W1.heap.size 3 _ _ (0, 0) hr8
                    simp at m0 m1 m2 m3
                    clear hr8 p8
                    go_wp2_with fail
                    refine p9.mono ?_
                    rintro e W9 ⟨rfl, b9⟩
                    have bR9 := bstep (bstep bR b8) b9
                    have hbb := (bR9.block base (by omega)).trans HB.out
                    have hc9 := cell_of_one hbb
                    have hr9 := (b9.block _ (lt_of_block (hk8.out W8 b8))).trans (hk8.out W8 b8)
                    have n0 := cell_of_row W9 W1.heap.size 0 _ _ (0, 0) hr9
                    have n1 := cell_of_row W9 W1.heap.size 1 _ _ (0, 0) hr9
                    have n2 := cell_of_row W9 W1.heap.size 2 _ _ (0, 0) hr9
                    have n3 := cell_of_row W9 W1.heap.size 3 _ _ (0, 0) hr9
                    simp at n0 n1 n2 n3
                    clear m0 m1 m2 m3
                    go_wp2_with fail
                    refine (p5 _).mono ?_
                    rintro e WA ⟨rfl, rfl⟩
                    unfold wrongP
                    exact ⟨rfl, Par2.no HB.out HL.out HX3.out bR9⟩
                · have HX : Hid (ruleStep atoiA l L.data.toList = none) := by
                    unfold Hid ruleStep
                    rw [hRR.out]
                    simp only [HOK.out, true_and]
                    rw [if_neg]
                    rintro ⟨h, _⟩
                    exact hQL (ba_ext (HQD.out.trans h))
                  have hb2 := ba_ne hQL
                  go_wp2_with fail
                  refine p7.mono ?_
                  rintro e W8 ⟨rfl, b8⟩
                  have p9 := p8 W8 b8
                  have hr8 := hk8.out W8 b8
                  have m0 := cell_of_row W8 W1.heap.size 0 _ _ (0, 0) hr8
                  have m1 := cell_of_row W8 W1.heap.size 1 _ _ (0, 0) hr8
                  have m2 := cell_of_row W8 W1.heap.size 2 _ _ (0, 0) hr8
                  have m3 := cell_of_row W8 W1.heap.size 3 _ _ (0, 0) hr8
                  simp at m0 m1 m2 m3
                  clear hr8 p8
                  go_wp2_with fail
                  refine p9.mono ?_
                  rintro e W9 ⟨rfl, b9⟩
                  go_wp2_with fail
                  refine (p5 _).mono ?_
                  rintro e WA ⟨rfl, rfl⟩
                  unfold wrongP
                  exact ⟨rfl, Par2.no HB.out HL.out HX.out (bstep (bstep bR b8) b9)⟩
    · rw [if_neg hneg] at p3 hif
      obtain ⟨wo, ro, hdr, hwo⟩ := opens_drop hneg
      rw [hif] at p3 hneg
      have hK := opensAt_le g
      generalize opensAt g = K at *
      have hKl : K < g.length := by
        have := congrArg List.length hdr
        simp only [List.length_drop, List.length_cons] at this
        omega
      refine p3.mono ?_
      rintro e W4 ⟨rfl, b4⟩
      have d1 : decide ((K : Int) + 1 < 0) = false := decide_eq_false (by omega)
      have d2 : decide ((0 : Int) < (K : Int) + 1) = true := decide_eq_true (by omega)
      go_wp2_with fail
      refine (p4 _).mono ?_
      rintro e W5 ⟨rfl, rfl⟩
      have b4' := bstep b3 b4
      have hr4 := (b4.block _ (by omega)).trans hr3
      have hg4 : ∀ j u, ((A1.data.toList :: g).map S)[j]? = some u → W4.cell? ⟨gF, j, none⟩ = some u := fun j u h => (b4.cell (p := ⟨gF, j, none⟩) hgF3).trans (HG3.out j u h)
      have hlt4 : gF < W4.heap.size := by have := b4.size; omega
      have hrow4 : RowAt W4 (some ⟨gF, 1, none⟩) ((g.take K).map S) := fun _ => ⟨gF, 1, rfl, hlt4, fun j u h => by
        rw [Nat.add_comm]
        refine hg4 (j + 1) u ?_
        rw [List.map_cons, List.getElem?_cons_succ]
        rw [List.map_take, List.getElem?_take] at h
        split at h
        · exact h
        · cases h⟩
      have hlK : (g.take K).length = K := by rw [List.length_take]; omega
      have p6 := unquotes_any (some ⟨gF, 1, none⟩) (cF - 1) (g.take K) W4 (hT.below b4').t hrow4 (by rw [hlK]; omega) (fun x hx => by have := hwm x (List.mem_cons_of_mem _ (List.mem_of_mem_take hx)); rw [← Lib.size_eq] at this; omega)
      rw [hlK] at p6
      unfold UnqPost at p6
      have k1 : (1 : Int) ≤ (K : Int) + 1 := by omega
      have k2 : (K : Int) + 1 ≤ (cF : Int) := by omega
      have k3 : (K : Int) + 1 ≤ (g.length : Int) + 1 := by omega
      have HG4 := Lib.hid hg4
      clear hrow4 hg4
      go_wp2_with fail
      refine p6.mono ?_
      rintro e W6 ⟨h1, h2⟩
      cases hq : unqAll (g.take K) with
      | none =>
        obtain ⟨rfl, b6⟩ := h2 hq
        have HX : Hid (ruleStep atoiA l L.data.toList = none) := by
          unfold Hid ruleStep
          rw [HR4.out, hq]
        unfold wrongP
        exact ⟨rfl, Par2.no HB.out HL.out HX.out (bstep b4' b6)⟩
      | some tg =>
        obtain ⟨v2, rfl, hown6, b6⟩ := h1 tg hq
        have htl := unqAll_len hq
        rw [hq] at HR4
        obtain ⟨At, ct, rfl, hct, hrt⟩ := hown6.row.to (n := tg.length) (by simp)
        have hz4 := lt_of_block hr4
        have hr6 := (b6.block _ (by omega)).trans hr4
        have k10 := cell_of_row W6 W1.heap.size 1 _ _ (0, 0) hr6
        have f10 := fzB hr6 1
        have hz6 : W1.heap.size < W6.heap.size := lt_of_block hr6
        have hgF6 : gF < W6.heap.size := by have := b6.size; omega
        have k4 : ((K : Nat) : Int) + 1 ≤ (g.length : Int) + 1 := k3
        simp at k10
        clear h1 h2 p1 p2 p3 p6 hq
        go_wp2_with fail
        obtain ⟨W7, hW7⟩ : ∃ W7, W7 = W6.setCell ⟨W1.heap.size, 1, none⟩ (.slice At K ct) := ⟨_, rfl⟩
        rw [← hW7]
        have hz7 : W7.heap.size = W6.heap.size := by rw [hW7]; simp [World.setCell]
        have hr7 : W7.heap[W1.heap.size]? = some (.cells #[.int .i64 2, .slice At K ct, .slice none 0 0, .bool a2] 42 (0, 0)) := by
          rw [hW7, heap_setCell_row hr6]; rfl
        have b7 : Below W.heap.size W W7 := by rw [hW7]; exact (bstep b4' b6).setCell (p := ⟨W1.heap.size, 1, none⟩) b1.size _
        have hg7 : ∀ j u, ((A1.data.toList :: g).map S)[j]? = some u → W7.cell? ⟨gF, j, none⟩ = some u := fun j u h => by
          rw [hW7, World.cell?_setCell_other _ _ _ _ (by simp only [ne_eq, Addr.mk.injEq]; omega)]
          exact (b6.cell (p := ⟨gF, j, none⟩) hlt4).trans (HG4.out j u h)
        have HG7 := Lib.hid hg7
        have HRT : Hid (RowAt W7 (some ⟨gF, 0, none⟩) [] ) := RowAt.nil _ _
        have HOWT : Hid (W7.ownsRow W4.heap.size 9 1 (.slice At K ct) K (tg.map S)) := by
          have hu := hown6
          unfold Own at hu
          rw [List.length_map, htl, hlK] at hu
          have hcs := chg_setCell W6 W1.heap.size 1 (.slice At K ct)
          rw [← hW7] at hcs
          exact own_chg hu hcs fun g hg e => by have := (hu.lt g hg).1; omega
        have hW47 : W4.heap.size ≤ W7.heap.size := by have := b6.size; omega
        have htgt : Hid (Firm (fun b => b = W1.heap.size ∨ W7.heap.size ≤ b) W7 (fun w => StrsV w (.slice At K ct) tg)) := by
          have := own_firm (X := fun b => b = W1.heap.size ∨ W7.heap.size ≤ b) HOWT.out fun g hg e => by
            have := HOWT.out.lt g hg
            rcases e with e | e <;> omega
          rw [Hid]
          unfold StrsV
          rwa [htl, hlK]
        clear hg7 hW7 hr6 k10 f10 hown6 hrt hr4 hr3 HG3 HG4
        go_loopw [3] (fun f wr => ∃ (done : List Tst) (rest : List Bs) (i m o cy : Nat) (xv : Value), f = .slice (some ⟨gF, o, none⟩) rest.length cy ∧ rest.length ≤ cy ∧ (rest ≠ [] → o = i + 1) ∧ g.drop i = rest ∧ i ≤ g.length ∧ rest.length ≤ m ∧ (rest = [] ∨ ∃ w r, rest = w :: r ∧ opens w = true) ∧
            Hid (wr.heap[W1.heap.size]? = some (.cells #[.int .i64 2, .slice At K ct, xv, .bool a2] 42 (0, 0))) ∧ Hid (TLst W7.heap.size wr xv done) ∧ Hid (Chg (fun b => b = W1.heap.size ∨ W7.heap.size ≤ b) W7 wr) ∧
            Hid (testsRead atoiA g.length (g.drop K) = (testsRead atoiA m rest).map (done ++ ·)) ∧ Hid (done.length ≤ i ∧ ∀ t ∈ done, t.tags.length ≤ 20000 ∧ t.barrier.length ≤ 20000)) (fun f _ => match f with | .slice _ n _ => n | _ => 0)
        case atStart =>
          refine ⟨[], g.drop K, K, g.length, K + 1, cF - (K + 1), .slice none 0 0, ?_, by rw [List.length_drop]; omega, fun _ => rfl, rfl, by omega, by rw [List.length_drop]; omega, Or.inr ⟨wo, ro, hdr, hwo⟩, hr7, RowL.nil _ _ rfl, Chg.refl _ _, by simp [Hid], by simp [Hid]⟩
          rw [List.length_drop]
        case round =>
          obtain ⟨done, rest, i, m, o, cy, xv, rfl, hcy, hoi, hri, hig, hrm, hro, HRB, HTL, HCH, HTR, HDN⟩ := hrel
          have bR : Below W.heap.size W wr := b7.trans ((HCH.out.mono fun b hb e => by rcases e with e | e <;> omega).below (B := W.heap.size) (by have := b7.size; omega))
          rcases hro with rfl | ⟨wd, r, rfl, hwd⟩
          · have hRR : Hid (ruleRead atoiA L.data.toList = some ⟨2, tg, done, a2⟩) := by
              rw [Hid, HR4.out, HTR.out]
              cases m <;> simp [testsRead]
            have hKt : K = tg.length := by omega
            clear htl hlK hif hdr
            subst hKt
            obtain ⟨Ax, cx, rfl, hcx, _⟩ := (RowL.form HTL.out)
            have k0 := cell_of_row wr W1.heap.size 0 _ _ (0, 0) HRB.out
            have k1 := cell_of_row wr W1.heap.size 1 _ _ (0, 0) HRB.out
            have k2 := cell_of_row wr W1.heap.size 2 _ _ (0, 0) HRB.out
            have k3 := cell_of_row wr W1.heap.size 3 _ _ (0, 0) HRB.out
            simp at k0 k1 k2 k3
            have hTg : StrsV wr (.slice At tg.length ct) tg := htgt.out wr HCH.out.size HCH.out.block
            have hRV : Hid (RulV wr (.slice At tg.length ct, .slice Ax done.length cx) ⟨2, tg, done, a2⟩) := ⟨hTg, HTL.out.tsts⟩
            have hSz : SizedR ⟨2, tg, done, a2⟩ := ⟨by show tg.length ≤ _; omega, by show done.length ≤ _; have := HDN.out.1; omega, fun t ht => by have := HDN.out.2 t ht; omega⟩
            have p7 := vrule_any ⟨2, tg, done, a2⟩ At Ax ct cx wr (hT.below bR).t hRV.out hSz
            clear hTg hSz
            dsimp only at p7
            cases hok : rulOk ⟨2, tg, done, a2⟩ with
            | false =>
              have HX : Hid (ruleStep atoiA l L.data.toList = none) := by
                unfold Hid ruleStep
                rw [hRR.out]
                simp only [hok, Bool.false_eq_true, false_and, if_false]
              rw [hok] at p7
              clear hok
              go_wp2_with fail
              refine p7.mono ?_
              rintro e W8 ⟨rfl, b8⟩
              go_wp2_with fail
              refine (p5 _).mono ?_
              rintro e W9 ⟨rfl, rfl⟩
              unfold wrongP
              exact ⟨rfl, Par2.no HB.out HL.out HX.out (bstep bR b8)⟩
            | true =>
              rw [hok] at p7
              have HOK := Lib.hid hok
              have p8 := fun (W8 : World) (b8 : Below wr.heap.size wr W8) => rule_any ⟨2, tg, done, a2⟩ At Ax ct cx W8 (hT.below (bstep bR b8)) (hRV.out.below b8) HOK.out
              dsimp only at p8
              obtain ⟨Q, hQ⟩ : ∃ Q : ByteArray, (⟨(ruleL ⟨2, tg, done, a2⟩).toArray⟩ : ByteArray) = Q := ⟨_, rfl⟩
              have hQd : Q.data.toList = ruleL ⟨2, tg, done, a2⟩ := by rw [← hQ]
              rw [hQ] at p8
              have HQD := Lib.hid hQd
              have hk8 : Hid (∀ W8, Below wr.heap.size wr W8 → W8.heap[W1.heap.size]? = some (.cells #[.int .i64 2, .slice At tg.length ct, .slice Ax done.length cx, .bool a2] 42 (0, 0))) := fun W8 b8 => (b8.block _ (lt_of_block HRB.out)).trans HRB.out
              clear hok hQ hQd
              by_cases hQL : Q = L
              · subst hQL
                obtain ⟨xs, hx1, hx2, hx3⟩ := HL.out
                obtain ⟨A, cv, rfl, hcv, _⟩ := own_sl hx2
                have hb2 : (Q.toList == Q.toList) = true := by simp
                have HX : Hid (ruleStep atoiA l Q.data.toList = if l.length < 100 then some (l ++ [⟨2, tg, done, a2⟩]) else none) := by
                  unfold Hid ruleStep
                  rw [hRR.out]
                  simp only [HOK.out, HQD.out, true_and]
                have HX12 := Lib.hid (And.intro hx2 hx3)
                have HXL := Lib.hid hx1
                clear hx1 hx2 hx3
                by_cases h100 : l.length < 100
                · have d100 : (l.length : Int) < 100 := by omega
                  have HX3 : Hid (ruleStep atoiA l Q.data.toList = some (l ++ [⟨2, tg, done, a2⟩])) := by rw [Hid, HX.out, if_pos h100]
                  go_wp2_with fail
                  refine p7.mono ?_
                  rintro e W8 ⟨rfl, b8⟩
                  have p9 := p8 W8 b8
                  have hr8 := hk8.out W8 b8
                  have m0 := cell_of_row W8 W1.heap.size 0 _ _ (0, 0) hr8
                  have m1 := cell_of_row W8 W1.heap.size 1 _ _ (0, 0) hr8
                  have m2 := cell_of_row W8 W1.heap.size 2 _ _ (0, 0) hr8
                  have m3 := cell_of_row W8 W1.heap.size 3 _ _ (0, 0) hr8
                  simp at m0 m1 m2 m3
                  clear hr8 p8
                  go_wp2_with fail
                  refine p9.mono ?_
                  rintro e W9 ⟨rfl, b9⟩
                  have bR9 := bstep (bstep bR b8) b9
                  have hbb := (bR9.block base (by omega)).trans HB.out
                  have hc9 := cell_of_one hbb
                  have hr9 := (b9.block _ (lt_of_block (hk8.out W8 b8))).trans (hk8.out W8 b8)
                  have n0 := cell_of_row W9 W1.heap.size 0 _ _ (0, 0) hr9
                  have n1 := cell_of_row W9 W1.heap.size 1 _ _ (0, 0) hr9
                  have n2 := cell_of_row W9 W1.heap.size 2 _ _ (0, 0) hr9
                  have n3 := cell_of_row W9 W1.heap.size 3 _ _ (0, 0) hr9
                  simp at n0 n1 n2 n3
                  clear m0 m1 m2 m3
                  go_wp2_with fail
                  refine (p4 _).mono ?_
                  rintro e WA ⟨rfl, rfl⟩
                  have bT : Below W.heap.size W (W9.alloc (.cells #[.int .i64 2, .slice At tg.length ct, .slice Ax done.length cx, .bool a2] 42)) := bR9.alloc bR9.size _
                  have hown3 : (W9.alloc (.cells #[.int .i64 2, .slice At tg.length ct, .slice Ax done.length cx, .bool a2] 42)).ownsRow (base + 7) 42 4 (.slice A l.length cv) l.length (rulCells l xs) := own_chg HX12.out.1 (Chg.of_new (X := fun _ => False) bT) (fun _ _ e => e)
                  have hblk3 : Hid ((W9.alloc (.cells #[.int .i64 2, .slice At tg.length ct, .slice Ax done.length cx, .bool a2] 42)).heap[base]? = some (.cells #[.slice A l.length cv] 37 (0, 0))) := (bT.block base (by omega)).trans HB.out
                  have hnews := World.news_of_block (heap_alloc_new W9 (.cells #[.int .i64 2, .slice At tg.length ct, .slice Ax done.length cx, .bool a2] 42))
                  have h63 : l.length + 1 ≤ maxLen := by unfold maxLen; omega
                  have hby : (l.length + 1) * 64 ≤ 140737488355328 := by omega
                  have hbase : base + 7 ≤ (W9.alloc (.cells #[.int .i64 2, .slice At tg.length ct, .slice Ax done.length cx, .bool a2] 42)).heap.size := by have := bT.size; omega
                  obtain ⟨ic, ci, cz0, cz1, cz2⟩ := info_parts rulInfo
                  go_wp2_with (at_builtin; refine wpList_append_lies _ rfl (.tmp 126) (.tmp 128) 37 rfl (base + 7) 42 ic _ 4 64 Tryz.underlying37 ci cz0 cz1 cz2 rfl (by decide) _ l.length (rulCells l xs) rfl hown3 ⟨W9.heap.size, 0, none⟩ 1 1 [.int .i64 2, .slice At tg.length ct, .slice Ax done.length cx, .bool a2] rfl rfl hnews (by simp [Value.oneCell']) (by decide) h63 hby hbase (W9.heap.size + 1) (by simp) ?_; intro g2 cap w5 hown5 hgr5 hat5 hlt5; have hb5 : w5.heap[base]? = some (.cells #[.slice A l.length cv] 37 (0, 0)) := (hgr5.block base (lt_of_block hblk3.out) (fun e => by have := (hown3.lt base e.symm).1; omega)).trans hblk3.out; have hc5 := cell_of_one hb5; have hf5 := free_of_one hb5)
                  refine bodyPost_ret (results_none rfl _ _ _) rfl ?_
                  have c5 := chg_setCell w5 base 0 (.slice (some ⟨g2, 0, none⟩) (l.length + 1) cap)
                  have hp : Firm (fun b => b < base + 7 ∨ (Value.slice A l.length cv).ownBlock = some b) (W9.alloc (.cells #[.int .i64 2, .slice At tg.length ct, .slice Ax done.length cx, .bool a2] 42)) (fun w => RulV w (.slice At tg.length ct, .slice Ax done.length cx) ⟨2, tg, done, a2⟩) := by
                    have bX : Below wr.heap.size wr (W9.alloc (.cells #[.int .i64 2, .slice At tg.length ct, .slice Ax done.length cx, .bool a2] 42)) := (bstep b8 b9).alloc (bstep b8 b9).size _
                    have cX := HCH.out.trans (Chg.of_new (X := fun _ => False) bX) fun _ _ e => e.elim
                    have hv : ∀ g, (Value.slice A l.length cv).ownBlock = some g → g < W.heap.size := fun g hg => (HX12.out.1.lt g hg).2
                    have h7W := b7.size
                    have h4W := b4'.size
                    refine ((own_firm (own_chg HOWT.out cX fun g hg e => ?_) fun g hg e => ?_).and (RowL.firm (RowL.chg HTL.out (Chg.of_new (X := fun _ => False) bX) fun _ _ e => e.elim) fun b hb e => ?_)).mono fun w h => ⟨h.1, h.2⟩
                    · have := HOWT.out.lt g hg
                      rcases e with e | e <;> omega
                    · have := HOWT.out.lt g hg
                      rcases e with e | e
                      · omega
                      · have := hv g e; omega
                    · rcases e with e | e
                      · omega
                      · have := hv b e; omega
                  have hl5 : RLst (base + 7) w5 (.slice (some ⟨g2, 0, none⟩) (l.length + 1) cap) (l ++ [⟨2, tg, done, a2⟩]) := RowL.add (p := (.slice At tg.length ct, .slice Ax done.length cx)) HXL.out hown3 (HX12.out.2.step (Chg.of_new (X := fun _ => False) bT) (fun _ _ e => e.elim) (fun _ _ e => e)) hp (rulCells_snoc l xs ⟨2, tg, done, a2⟩ (.slice At tg.length ct, .slice Ax done.length cx) HXL.out) hown5 hgr5 (hat5.imp id fun e => by rw [e]; simp)
                  refine ⟨((Chg.of_new bT).trans (Chg.of_grown hgr5) fun b hb e => Or.inr ?_).trans c5 fun b _ e => Or.inl e, Or.inl ⟨_, HX3.out, rfl, _, one_setCell hb5, hl5.chg c5 fun b _ e => by omega⟩⟩
                  exact (hown3.lt b e).1
                · have d100 : decide ((l.length : Int) < 100) = false := decide_eq_false (by omega)
                  have HX3 : Hid (ruleStep atoiA l Q.data.toList = none) := by rw [Hid, HX.out, if_neg h100]
                  go_wp2_with fail
                  refine p7.mono ?_
                  rintro e W8 ⟨rfl, b8⟩
                  have p9 := p8 W8 b8
                  have hr8 := hk8.out W8 b8
                  have m0 := cell_of_row W8 W1.heap.size 0 _ _ (0, 0) hr8
                  have m1 := cell_of_row W8 W1.heap.size 1 _ _ (0, 0) hr8
                  have m2 := cell_of_row W8 W1.heap.size 2 _ _ (0, 0) hr8
                  have m3 := cell_of_row W8 W1.heap.size 3 _ _ (0, 0) hr8
                  simp at m0 m1 m2 m3
                  clear hr8 p8
                  go_wp2_with fail
                  refine p9.mono ?_
                  rintro e W9 ⟨rfl, b9⟩
                  have bR9 := bstep (bstep bR b8) b9
                  have hbb := (bR9.block base (by omega)).trans HB.out
                  have hc9 := cell_of_one hbb
                  have hr9 := (b9.block _ (lt_of_block (hk8.out W8 b8))).trans (hk8.out W8 b8)
                  have n0 := cell_of_row W9 W1.heap.size 0 _ _ (0, 0) hr9
                  have n1 := cell_of_row W9 W1.heap.size 1 _ _ (0, 0) hr9
                  have n2 := cell_of_row W9 W1.heap.size 2 _ _ (0, 0) hr9
                  have n3 := cell_of_row W9 W1.heap.size 3 _ _ (0, 0) hr9
                  simp at n0 n1 n2 n3
                  clear m0 m1 m2 m3
                  go_wp2_with fail
                  refine (p5 _).mono ?_
                  rintro e WA ⟨rfl, rfl⟩
                  unfold wrongP
                  exact ⟨rfl, Par2.no HB.out HL.out HX3.out bR9⟩
              · have HX : Hid (ruleStep atoiA l L.data.toList = none) := by
                  unfold Hid ruleStep
                  rw [hRR.out]
                  simp only [HOK.out, true_and]
                  rw [if_neg]
                  rintro ⟨h, _⟩
                  exact hQL (ba_ext (HQD.out.trans h))
                have hb2 := ba_ne hQL
                go_wp2_with fail
                refine p7.mono ?_
                rintro e W8 ⟨rfl, b8⟩
                have p9 := p8 W8 b8
                have hr8 := hk8.out W8 b8
                have m0 := cell_of_row W8 W1.heap.size 0 _ _ (0, 0) hr8
                have m1 := cell_of_row W8 W1.heap.size 1 _ _ (0, 0) hr8
                have m2 := cell_of_row W8 W1.heap.size 2 _ _ (0, 0) hr8
                have m3 := cell_of_row W8 W1.heap.size 3 _ _ (0, 0) hr8
                simp at m0 m1 m2 m3
                clear hr8 p8
                go_wp2_with fail
                refine p9.mono ?_
                rintro e W9 ⟨rfl, b9⟩
                go_wp2_with fail
                refine (p5 _).mono ?_
                rintro e WA ⟨rfl, rfl⟩
                unfold wrongP
                exact ⟨rfl, Par2.no HB.out HL.out HX.out (bstep (bstep bR b8) b9)⟩
          · obtain rfl : o = i + 1 := hoi (by simp)
            clear hoi
            rw [List.length_cons] at hcy
            have HS1 : Hid (∀ t, testRead atoiA (wd :: r.take (opensAt r)) = some t → ∃ m', m = m' + 1 ∧ testsRead atoiA g.length (g.drop K) = (testsRead atoiA m' (r.drop (opensAt r))).map ((done ++ [t]) ++ ·)) := by
              intro t ht
              obtain ⟨m', rfl⟩ : ∃ m', m = m' + 1 := ⟨m - 1, by simp only [List.length_cons] at hrm; omega⟩
              exact ⟨m', rfl, by rw [HTR.out, testsRead_some ht]; cases testsRead atoiA m' (r.drop (opensAt r)) <;> simp⟩
            have HS0 : Hid (testRead atoiA (wd :: r.take (opensAt r)) = none → ruleStep atoiA l L.data.toList = none) := by
              intro h
              unfold ruleStep
              rw [HR4.out, HTR.out, testsRead_none h]
              rfl
            have hif2 := idxB_opens r
            have hkr := opensAt_le r
            have hdr2 : r.drop (opensAt r) = [] ∨ ∃ w r', r.drop (opensAt r) = w :: r' ∧ opens w = true := by
              by_cases hn : idxB opens r < 0
              · left
                rw [if_pos hn] at hif2
                exact List.drop_eq_nil_of_le (by omega)
              · exact Or.inr (opens_drop hn)
            have HDR := Lib.hid hdr2
            obtain ⟨lw, hlw⟩ : ∃ lw, (wd :: r)[opensAt r]? = some lw := ⟨_, List.getElem?_eq_getElem (by simp only [List.length_cons]; omega)⟩
            have HT1 := Lib.hid (testRead_eq atoiA wd r hkr hlw)
            generalize opensAt r = k at *
            have hgw : ∀ j u, ((wd :: r).map S)[j]? = some u → wr.cell? ⟨gF, i + 1 + j, none⟩ = some u := fun j u h => by
              rw [cell_same (HCH.out.block gF (by omega) (fun e => by rcases e with e | e <;> omega))]
              refine HG7.out (i + 1 + j) u ?_
              rw [List.map_cons, show i + 1 + j = (i + j) + 1 by omega, List.getElem?_cons_succ, ← h, ← hri, List.map_drop, List.getElem?_drop]
            have hlm : ∀ x ∈ wd :: r, x.length ≤ 16384 := fun x hx => by
              have := hwm x (List.mem_cons_of_mem _ (List.mem_of_mem_drop (by rw [hri]; exact hx)))
              rw [← Lib.size_eq] at this
              omega
            have hrl1 : i + (r.length + 1) = g.length := by
              have := congrArg List.length hri
              simp only [List.length_drop, List.length_cons] at this
              omega
            obtain ⟨Lw, hLw⟩ : ∃ A : ByteArray, (⟨lw.toArray⟩ : ByteArray) = A := ⟨_, rfl⟩
            obtain rfl : lw = Lw.data.toList := by rw [← hLw]
            have hcl : wr.cell? ⟨gF, i + 1 + k, none⟩ = some (.string Lw) := hgw k _ (by rw [List.getElem?_map, hlw]; rfl)
            have hlw1 : Lw.size ≤ 16384 := by rw [Lib.size_eq]; exact hlm _ (List.mem_of_getElem? hlw)
            have hcw : wr.cell? ⟨gF, i + 1, none⟩ = some (.string ⟨wd.toArray⟩) := hgw 0 _ rfl
            have hrow2 : RowAt wr (some ⟨gF, i + 1 + 1, none⟩) (r.map S) := fun _ => ⟨gF, i + 1 + 1, rfl, by have := HCH.out.size; omega, fun j u h => by rw [show i + 1 + 1 + j = i + 1 + (j + 1) by omega]; exact hgw (j + 1) u (by simpa using h)⟩
            have q1 := index_opens2 (some ⟨gF, i + 1 + 1, none⟩) (cy - 1) r wr hrow2 (by omega)
            have q2 := fun Wx => cutSuf_any Lw 41 Wx (by omega)
            have hcut := cutEnd_len Lw.data.toList 41
            generalize cutEnd Lw.data.toList 41 = cc at *
            obtain ⟨c1, c2⟩ := cc
            obtain ⟨C1, hC1⟩ : ∃ A : ByteArray, (⟨c1.toArray⟩ : ByteArray) = A := ⟨_, rfl⟩
            obtain rfl : c1 = C1.data.toList := by rw [← hC1]
            dsimp only at q2 hcut
            rw [hC1] at q2
            have hC1s : C1.size ≤ 16384 := by rw [Lib.size_eq] at *; omega
            have hib2 := (idxB_bd opens r).2.1
            have hcase : (idxB opens r = -1 ∧ r.length = k) ∨ idxB opens r = (k : Int) := by
              by_cases hn : idxB opens r < 0
              · rw [if_pos hn] at hif2
                exact Or.inl ⟨by have := (idxB_bd opens r).1; omega, by omega⟩
              · rw [if_neg hn] at hif2
                exact Or.inr hif2
            have HGW := Lib.hid hgw
            have HLM := Lib.hid hlm
            have HRM := Lib.hid hrm
            have HRI := Lib.hid hri
            have j1 : (1 : Int) ≤ (r.length : Int) + 1 := by omega
            have j2 : (r.length : Int) + 1 ≤ (cy : Int) := by omega
            have j3 : (1 : Int) ≤ (cy : Int) := by omega
            have j4 : ((k : Int) + 1 == 0) = false := by simp; omega
            have j5 : (k : Int) < (r.length : Int) + 1 := by omega
            have j6 : (k : Int) ≤ 16384 := by omega
            have j7 : (r.length : Int) ≤ 16384 := by omega
            have j8 : (0 : Int) ≤ (k : Int) := by omega
            clear hC1 hLw hrow2 hgw hlm hri hif2 hdr2 htl hlK hif hdr hlw
            rw [List.length_cons]
            generalize hrl : r.length = n at *
            have hi16 : i ≤ 16384 := by omega
            clear hwm hwl hw0 l2 hsb e1 hown3 hneg d1 d2 k1 k2 k3 k4 hr7 hrm hib hz3 hcut hgl
            by_cases hcy1 : cy = 1
            · obtain rfl : n = 0 := by omega
              obtain rfl : k = 0 := by omega
              subst hcy1
              obtain rfl : r = [] := List.eq_nil_of_length_eq_zero hrl
              have q0 := index_opens2 (some ⟨gF, i + 1, none⟩) 0 [] wr (RowAt.nil _ _) (by simp)
              have HX : Hid (testRead atoiA (wd :: ([] : List Bs).take 0) = none) := by rw [Hid, HT1.out]; simp
              have hi0 : idxB opens [] = -1 := rfl
              rw [hi0] at q0
              clear q1 hcase hi0 hib2 hrl1
              go_wp2_with fail
              refine q0.mono ?_
              rintro e W8 ⟨rfl, b8⟩
              have hcl8 := (b8.cell (p := ⟨gF, i + 1 + 0, none⟩) (show gF < wr.heap.size by have := HCH.out.size; omega)).trans hcl
              go_wp2_with fail
              refine (q2 _).mono ?_
              rintro e W9 ⟨rfl, rfl⟩
              have := Par2.no (W' := W8) HB.out HL.out (HS0.out HX.out) (bstep bR b8)
              cases c2 with
              | false =>
                go_wp2_with fail
                refine (p5 _).mono ?_
                rintro e W9 ⟨rfl, rfl⟩
                unfold wrongP at *
                exact ⟨rfl, this⟩
              | true =>
                go_wp2_with fail
                refine (p5 _).mono ?_
                rintro e W9 ⟨rfl, rfl⟩
                unfold wrongP at *
                exact ⟨rfl, this⟩
            · have hcy2 : ¬ (cy - 1 = 0) := by omega
              rcases hcase with ⟨hi2, hnk⟩ | hi2
              case' inl => obtain rfl : k = n := hnk.symm
              all_goals
                rw [hi2] at q1
                clear hi2
                go_wp2_with fail
                refine q1.mono ?_
                rintro e W8 ⟨rfl, b8⟩
                have hcl8 := (b8.cell (p := ⟨gF, i + 1 + k, none⟩) (show gF < wr.heap.size by have := HCH.out.size; omega)).trans hcl
                go_wp2_with fail
                refine (q2 _).mono ?_
                rintro e W9 ⟨rfl, rfl⟩
                have bR8 := bstep bR b8
                have HNO : Hid (∀ W', Below wr.heap.size wr W' → testRead atoiA (wd :: r.take k) = none → Par2 base l L.data.toList W wrongP W') := fun W' b' h => Par2.no HB.out HL.out (HS0.out h) (bstep bR b')
                cases c2 with
                | false =>
                  have HX : Hid (testRead atoiA (wd :: r.take k) = none) := by rw [Hid, HT1.out]; simp
                  go_wp2_with fail
                  refine (p5 _).mono ?_
                  rintro e W9 ⟨rfl, rfl⟩
                  have := HNO.out _ b8 HX.out
                  unfold wrongP at *
                  exact ⟨rfl, this⟩
                | true =>
                  by_cases hk0 : k = 0
                  · have HX : Hid (testRead atoiA (wd :: r.take k) = none) := by rw [Hid, HT1.out, hk0]; simp
                    have d5 : ¬ (1 : Int) < (k : Int) + 1 := by omega
                    go_wp2_with fail
                    refine (p5 _).mono ?_
                    rintro e W9 ⟨rfl, rfl⟩
                    have := HNO.out _ b8 HX.out
                    unfold wrongP at *
                    exact ⟨rfl, this⟩
                  · have HT2 : Hid (testRead atoiA (wd :: r.take k) = match hdrRead atoiA wd.tail with | some t => namesRead t (r.take (k - 1) ++ [C1.data.toList]) | none => none) := by
                      rw [Hid]
                      exact HT1.out.trans (if_pos ⟨rfl, by omega⟩)
                    have d5 : (1 : Int) < (k : Int) + 1 := by omega
                    obtain ⟨Wd, hWd⟩ : ∃ A : ByteArray, (⟨wd.toArray⟩ : ByteArray) = A := ⟨_, rfl⟩
                    obtain rfl : wd = Wd.data.toList := by rw [← hWd]
                    have hcw8 : W8.cell? ⟨gF, i + 1, none⟩ = some (.string Wd) := (b8.cell (p := ⟨gF, i + 1, none⟩) (show gF < wr.heap.size by have := HCH.out.size; omega)).trans (by rw [hcw, hWd])
                    have hWd0 : 0 < Wd.size := by
                      rw [Lib.size_eq]
                      refine List.length_pos_iff.2 fun e => ?_
                      rw [e] at hwd
                      cases hwd
                    have hWds : Wd.size ≤ 16384 := by rw [Lib.size_eq]; exact HLM.out _ (by simp)
                    have hW1 : (1 : Int) ≤ (Wd.size : Int) := by omega
                    have htl2 : (Wd.extract 1 Wd.size).data.toList = Wd.data.toList.tail := by
                      rw [ext_data, List.take_of_length_le (by rw [List.length_drop, ← Lib.size_eq]; omega), List.drop_one]
                    have q3 := header_any (Wd.extract 1 Wd.size) W8 (by rw [Lib.size_eq, htl2, List.length_tail, ← Lib.size_eq]; omega) (hT.below bR8)
                    rw [htl2] at q3
                    clear htl2 hWd hcw
                    go_wp2_with fail
                    refine (p4 _).mono ?_
                    rintro e W9 ⟨rfl, rfl⟩
                    go_wp2_with fail
                    refine q3.mono ?_
                    rintro e W9 ⟨h1, h2, b9⟩
                    cases hh : hdrRead atoiA Wd.data.toList.tail with
                    | none =>
                      obtain rfl := h2 hh
                      have HX : Hid (testRead atoiA (Wd.data.toList :: r.take k) = none) := by rw [Hid, HT2.out, hh]
                      have := HNO.out _ (bstep b8 b9) HX.out
                      unfold wrongP at *
                      exact ⟨rfl, this⟩
                    | some t =>
                      obtain ⟨rfl, ht1, ht2⟩ := h1 t hh
                      rw [hh] at HT2
                      obtain ⟨ic, ci, cz0, cz1, cz2⟩ := info_parts strInfo
                      obtain ⟨WA, hWA⟩ : ∃ WA, WA = W9.alloc (.cells #[.int .i64 t.at_, .bool t.scan, .bool t.not_, .bool t.careful, .slice none 0 0, .slice none 0 0] 79) := ⟨_, rfl⟩
                      have b9A : Below W9.heap.size W9 WA := by rw [hWA]; exact (Below.refl _ _).alloc (Nat.le_refl _) _
                      have bwA : Below wr.heap.size wr WA := bstep (bstep b8 b9) b9A
                      have hzA : WA.heap.size = W9.heap.size + 1 := by rw [hWA]; simp
                      have HTA : Hid (WA.heap[W9.heap.size]? = some (.cells #[.int .i64 t.at_, .bool t.scan, .bool t.not_, .bool t.careful, .slice none 0 0, .slice none 0 0] 79 (0, 0))) := by rw [Hid, hWA]; exact heap_alloc_new W9 _
                      have hgwr : gF < wr.heap.size := by have := HCH.out.size; omega
                      have hlk1 : (r.take (k - 1)).length = k - 1 := by rw [List.length_take, hrl]; omega
                      have q4 := clone_any gF (i + 1 + 1) (cy - 1) (r.take (k - 1)) WA (fun j u h => by
                        rw [bwA.cell (p := ⟨gF, i + 1 + 1 + j, none⟩) hgwr, show i + 1 + 1 + j = i + 1 + (j + 1) by omega]
                        refine HGW.out (j + 1) u ?_
                        rw [List.map_cons, List.getElem?_cons_succ]
                        rw [List.map_take, List.getElem?_take] at h
                        split at h
                        · exact h
                        · cases h) (by rw [hlk1]; omega)
                      rw [hlk1] at q4
                      have e6 : (k : Int) + 1 - 1 = (k : Int) := by omega
                      go_wp2_with fail
                      rw [← hWA]
                      refine q4.mono ?_
                      rintro e WB ⟨v3, rfl, hown3, bB⟩
                      have hownS : (WB.alloc (.cells #[.string C1] 9)).ownsRow WA.heap.size 9 1 v3 (k - 1) ((r.take (k - 1)).map S) := by
                        have h := World.ownsRow.alloc hown3 (.cells #[.string C1] 9)
                        rwa [List.length_map, hlk1] at h
                      have hnews := World.news_of_block (heap_alloc_new WB (.cells #[.string C1] 9))
                      have h63 : k - 1 + 1 ≤ maxLen := by unfold maxLen; omega
                      have hby : (k - 1 + 1) * 16 ≤ 140737488355328 := by omega
                      have hbase : WA.heap.size ≤ (WB.alloc (.cells #[.string C1] 9)).heap.size := by have := bB.size; simp; omega
                      clear hWA hlk1
                      go_wp2_with (at_builtin; refine wpList_append_lies _ rfl (.tmp 83) (.tmp 85) 31 rfl WA.heap.size 9 ic _ 1 16 Tryz.underlying31 ci cz0 cz1 cz2 rfl (by decide) v3 (k - 1) ((r.take (k - 1)).map S) rfl hownS ⟨WB.heap.size, 0, none⟩ 1 1 [.string C1] rfl rfl hnews (by simp [Value.oneCell']) (by decide) h63 hby hbase (WB.heap.size + 1) (by simp) ?_; intro g2 cap w5 hown5 hgr5 hat5 hlt5)
                      have b5 : Below WA.heap.size WA w5 := (bB.alloc bB.size _).grown hgr5 hbase fun g hg => (hown3.lt g hg).1
                      have bw5 := bstep bwA b5
                      obtain ⟨nm, hnm⟩ : ∃ nm, nm = r.take (k - 1) ++ [C1.data.toList] := ⟨_, rfl⟩
                      have hlnm : k - 1 + 1 = nm.length := by rw [hnm, List.length_append, List.length_take, hrl]; simp <;> omega
                      have hown6 : w5.ownsRow WA.heap.size 9 1 (.slice (some ⟨g2, 0, none⟩) nm.length cap) nm.length (nm.map S) := by
                        rw [← hlnm, hnm, List.map_append]; exact hown5
                      have hg2A := (hown6.lt g2 rfl).1
                      have hrow5 : RowAt w5 (some ⟨g2, 0, none⟩) (nm.map S) ∧ nm.length ≤ cap := by
                        obtain ⟨A', c', e', h1, h2⟩ := own_sl hown6
                        cases e'
                        exact ⟨h2, h1⟩
                      obtain ⟨hrow5, hcap⟩ := hrow5
                      have hnml : ∀ x ∈ nm, x.length ≤ 16384 := fun x hx => by
                        rw [hnm] at hx
                        rcases List.mem_append.1 hx with hx | hx
                        · exact HLM.out x (List.mem_cons_of_mem _ (List.mem_of_mem_take hx))
                        · simp only [List.mem_singleton] at hx; subst hx; rw [← Lib.size_eq]; exact hC1s
                      have hnmk : nm.length ≤ 16384 := by omega
                      rw [← hnm] at HT2
                      have HT5 : Hid (TabH w5) := hT.below (bstep bR bw5)
                      have q5 := index_bar (some ⟨g2, 0, none⟩) cap nm w5 hrow5 (by omega)
                      have HT9 : Hid (w5.heap[W9.heap.size]? = some (.cells #[.int .i64 t.at_, .bool t.scan, .bool t.not_, .bool t.careful, .slice none 0 0, .slice none 0 0] 79 (0, 0))) := (b5.block _ (by omega)).trans HTA.out
                      have HNML := Lib.hid hnml
                      have HN6 := Lib.hid hown6
                      clear hown5 hownS hnews hnm hown6 hnml hown3 h1 h2 hh
                      rw [hlnm]
                      cases hbar : barAt nm with
                      | none =>
                        rw [hbar] at q5
                        have q6 := unquotes_any (some ⟨g2, 0, none⟩) cap nm w5 HT5.out.t hrow5 (by omega) (fun x hx => by have := HNML.out x hx; omega)
                        unfold UnqPost at q6
                        have HT3 : Hid (testRead atoiA (Wd.data.toList :: r.take k) = match unqAll nm with | some gs => some { t with tags := gs } | none => none) := by
                          rw [Hid, HT2.out]
                          show namesRead t nm = _
                          unfold namesRead
                          rw [hbar]
                          cases unqAll nm <;> rfl
                        refine q5.mono ?_
                        rintro e wx ⟨rfl, rfl⟩
                        go_wp2_with fail
                        refine q6.mono ?_
                        rintro e w6 ⟨h1, h2⟩
                        cases hq : unqAll nm with
                        | none =>
                          obtain ⟨rfl, b6'⟩ := h2 hq
                          have HX : Hid (testRead atoiA (Wd.data.toList :: r.take k) = none) := by rw [Hid, HT3.out, hq]
                          have := HNO.out _ (bstep bw5 b6') HX.out
                          unfold wrongP at *
                          exact ⟨rfl, this⟩
                        | some gs =>
                          obtain ⟨v6, rfl, hown7, b6'⟩ := h1 gs hq
                          rw [hq] at HT3
                          have bw6 := bstep bw5 b6'
                          have ht9 := (b6'.block _ (lt_of_block HT9.out)).trans HT9.out
                          have hgl0 : gs.length ≤ 20000 := by have := unqAll_len hq; omega
                          have hbl0 : t.barrier.length ≤ 20000 := by rw [ht2]; simp
                          have h59 : W9.heap.size < w5.heap.size := lt_of_block HT9.out
                          have h5s : wr.heap.size ≤ w5.heap.size := bw5.size
                          have HBF : ∀ (X : Nat → Prop) (wz : World), Firm X wz (fun w => StrsV w (.slice none 0 0) t.barrier) := fun X wz w _ _ => by rw [ht2]; exact Sl.nil w
                          clear q5 q6
                          obtain ⟨A6, c6, rfl, hc6, hr6'⟩ := hown7.row.to (n := gs.length) (by simp)
                          obtain ⟨Ax, cx, rfl, hcx, _⟩ := RowL.form HTL.out
                          obtain ⟨xs, hx1, hx2, hx3⟩ := HTL.out
                          have hrb := (bw6.block _ (lt_of_block HRB.out)).trans HRB.out
                          have c0 := cell_of_row w6 W9.heap.size 0 _ _ (0, 0) ht9
                          have c1 := cell_of_row w6 W9.heap.size 1 _ _ (0, 0) ht9
                          have c2 := cell_of_row w6 W9.heap.size 2 _ _ (0, 0) ht9
                          have c3 := cell_of_row w6 W9.heap.size 3 _ _ (0, 0) ht9
                          have c4 := cell_of_row w6 W9.heap.size 4 _ _ (0, 0) ht9
                          have c5 := cell_of_row w6 W9.heap.size 5 _ _ (0, 0) ht9
                          have f4 := fzB ht9 4
                          have d2 := cell_of_row w6 W1.heap.size 2 _ _ (0, 0) hrb
                          simp at c0 c1 c2 c3 c4 c5 d2
                          have hne9 : W9.heap.size ≠ W1.heap.size := by have := lt_of_block HRB.out; have := b8.size; have := b9.size; omega
                          clear h1 h2 ht9 hrb
                          have hzs : (w6.setCell ⟨W9.heap.size, 4, none⟩ (.slice A6 gs.length c6)).heap.size = w6.heap.size := by simp [World.setCell]
                          have hwr9 : wr.heap.size ≤ W9.heap.size := by have := b8.size; have := b9.size; omega
                          have bWT : Below wr.heap.size wr ((w6.setCell ⟨W9.heap.size, 4, none⟩ (.slice A6 gs.length c6)).alloc (.cells #[.int .i64 t.at_, .bool t.scan, .bool t.not_, .bool t.careful, .slice A6 gs.length c6, .slice none 0 0] 79)) := (bw6.setCell (p := ⟨W9.heap.size, 4, none⟩) hwr9 _).alloc (by rw [hzs]; exact bw6.size) _
                          have hownT : (((w6.setCell ⟨W9.heap.size, 4, none⟩ (.slice A6 gs.length c6)).alloc (.cells #[.int .i64 t.at_, .bool t.scan, .bool t.not_, .bool t.careful, .slice A6 gs.length c6, .slice none 0 0] 79))).ownsRow W7.heap.size 79 6 (.slice Ax done.length cx) done.length (tstCells done xs) := own_chg hx2 (Chg.of_new (X := fun _ => False) bWT) (fun _ _ e => e)
                          have hnewsT : ∀ j u, [Value.int .i64 t.at_, .bool t.scan, .bool t.not_, .bool t.careful, .slice A6 gs.length c6, .slice none 0 0][j]? = some u → (((w6.setCell ⟨W9.heap.size, 4, none⟩ (.slice A6 gs.length c6)).alloc (.cells #[.int .i64 t.at_, .bool t.scan, .bool t.not_, .bool t.careful, .slice A6 gs.length c6, .slice none 0 0] 79))).cell? ((⟨w6.heap.size, 0, none⟩ : Addr).add j) = some u := by
                            have h := World.news_of_block (heap_alloc_new (w6.setCell ⟨W9.heap.size, 4, none⟩ (.slice A6 gs.length c6)) (.cells #[.int .i64 t.at_, .bool t.scan, .bool t.not_, .bool t.careful, .slice A6 gs.length c6, .slice none 0 0] 79))
                            rw [hzs] at h
                            exact h
                          have hdn := HDN.out.1
                          have h63T : done.length + 1 ≤ maxLen := by unfold maxLen; omega
                          have hbyT : (done.length + 1) * 64 ≤ 140737488355328 := by omega
                          have hbaseT : W7.heap.size ≤ (((w6.setCell ⟨W9.heap.size, 4, none⟩ (.slice A6 gs.length c6)).alloc (.cells #[.int .i64 t.at_, .bool t.scan, .bool t.not_, .bool t.careful, .slice A6 gs.length c6, .slice none 0 0] 79))).heap.size := by have := bWT.size; have := HCH.out.size; omega
                          obtain ⟨ic2, ci2, cy0, cy1, cy2⟩ := info_parts tstInfo
                          have HX12 := Lib.hid (And.intro hx1 hx3)
                          have HXLT : Hid (∀ g, (Value.slice Ax done.length cx).ownBlock = some g → g < wr.heap.size) := fun g hg => (hx2.lt g hg).2
                          clear hx1 hx3 hx2
                          go_wp2_with (at_builtin; refine wpList_append_lies _ rfl (.tmp 104) (.tmp 106) 40 rfl W7.heap.size 79 ic2 _ 6 64 Tryz.underlying40 ci2 cy0 cy1 cy2 rfl (by decide) (.slice Ax done.length cx) done.length (tstCells done xs) rfl hownT ⟨w6.heap.size, 0, none⟩ 1 1 [.int .i64 t.at_, .bool t.scan, .bool t.not_, .bool t.careful, .slice A6 gs.length c6, .slice none 0 0] rfl rfl hnewsT (by simp [Value.oneCell']) (by decide) h63T hbyT hbaseT (w6.heap.size + 1) (by simp) ?_; intro g3 cap3 w7 hown8 hgr8 hat8 hlt8; have hrb7 := (hgr8.block W1.heap.size (by have := bWT.size; have := lt_of_block HRB.out; omega) (fun e => by have := (hownT.lt _ e.symm).1; omega)).trans ((bWT.block _ (lt_of_block HRB.out)).trans HRB.out); have r2 := cell_of_row w7 W1.heap.size 2 _ _ (0, 0) hrb7; have rf2 := fzB hrb7 2; simp at r2)
                          go_roundw
                          case rel =>
                            obtain ⟨m', hm', HTR2⟩ := HS1.out { t with tags := gs } HT3.out
                            have hrbE := heap_setCell_row (k := 2) (u := .slice (some ⟨g3, 0, none⟩) (done.length + 1) cap3) hrb7
                            have cS := chg_setCell w7 W1.heap.size 2 (.slice (some ⟨g3, 0, none⟩) (done.length + 1) cap3)
                            have hdrl := List.length_drop (i := k) (l := r)
                            rw [hrl] at hdrl
                            have hTn : TLst W7.heap.size w7 (.slice (some ⟨g3, 0, none⟩) (done.length + 1) cap3) (done ++ [{ t with tags := gs }]) := by
                              refine RowL.add (p := (.slice A6 gs.length c6, .slice none 0 0)) HX12.out.1 hownT (HX12.out.2.step (Chg.of_new (X := fun _ => False) bWT) (fun _ _ e => e.elim) (fun _ _ e => e)) ?_ (tstCells_snoc done xs { t with tags := gs } (.slice A6 gs.length c6, .slice none 0 0) HX12.out.1) hown8 hgr8 (hat8.imp id fun e => by rw [e, World.size_alloc, hzs]; omega)
                              have hu := hown7
                              unfold Own at hu
                              rw [List.length_map] at hu
                              have c6T := (chg_setCell w6 W9.heap.size 4 (.slice A6 gs.length c6)).trans (chg_alloc (fun _ => False) _ (.cells #[.int .i64 t.at_, .bool t.scan, .bool t.not_, .bool t.careful, .slice A6 gs.length c6, .slice none 0 0] 79)) fun _ _ e => e.elim
                              have hWs := HCH.out.size
                              refine ((own_firm (own_chg hu c6T fun g hg e => ?_) fun g hg e => ?_).and (HBF _ _)).mono fun w h => ⟨h.1, ?_⟩
                              · have := (hu.lt g hg).1; omega
                              · have := (hu.lt g hg).1
                                rcases e with e | e
                                · omega
                                · have := HXLT.out g e; omega
                              · exact h.2
                            refine ⟨done ++ [{ t with tags := gs }], r.drop k, i + k + 1, m', if cy = k + 1 then i + 1 else i + 1 + (k + 1), cy - (k + 1), .slice (some ⟨g3, 0, none⟩) (done.length + 1) cap3, ?_, ?_, ?_, ?_, ?_, ?_, HDR.out, ?_, ?_, ?_, ?_, ?_⟩
                            · rw [hdrl]; split <;> first | rfl | rw [Nat.sub_self]
                            · rw [hdrl]; omega
                            · intro hne
                              have : (r.drop k).length ≠ 0 := fun e => hne (List.eq_nil_of_length_eq_zero e)
                              rw [if_neg (by omega)]; omega
                            · have := congrArg (List.drop (k + 1)) HRI.out
                              rw [List.drop_drop, List.drop_succ_cons] at this
                              rw [← this]; congr 1
                            · omega
                            · have := HRM.out
                              rw [List.length_cons, hrl] at this
                              rw [hdrl]; omega
                            · rw [Hid]; simpa using hrbE
                            · exact RowL.chg hTn cS fun b _ e => by omega
                            · exact ((HCH.out.trans (Chg.of_new (X := fun _ => False) bWT) fun _ _ e => e.elim).trans (Chg.of_grown hgr8) fun b _ e => Or.inr (hownT.lt b e).1).trans cS fun b _ e => Or.inl e
                            · exact HTR2
                            · refine ⟨by rw [List.length_append]; show done.length + 1 ≤ _; omega, fun x hx => ?_⟩
                              rcases List.mem_append.1 hx with hx | hx
                              · exact HDN.out.2 x hx
                              · simp only [List.mem_singleton] at hx
                                subst hx
                                exact ⟨hgl0, hbl0⟩
                          case measure => first | (show 0 < _ + 1; omega) | (show _ - k < _ + 1; omega)
                      | some jb =>
                        rw [hbar] at q5
                        have hjb := barAt_lt hbar
                        have hlD : (nm.drop (jb + 1)).length = nm.length - (jb + 1) := List.length_drop
                        have hlT : (nm.take jb).length = jb := by rw [List.length_take]; omega
                        have hrowD : RowAt w5 (some ⟨g2, if cap = jb + 1 then 0 else jb + 1, none⟩) ((nm.drop (jb + 1)).map S) := fun hne => by
                          have h0 : (nm.drop (jb + 1)).length ≠ 0 := fun e => hne (by rw [List.eq_nil_of_length_eq_zero e]; rfl)
                          rw [if_neg (by omega)]
                          obtain ⟨bq, oq, e, hltq, hcq⟩ := hrow5 (fun e => by have := congrArg List.length e; rw [List.length_map] at this; simp at this; rw [this] at hjb; simp at hjb)
                          cases e
                          refine ⟨g2, jb + 1, rfl, hltq, fun j u h => ?_⟩
                          have := hcq (jb + 1 + j) u (by rw [← h, List.map_drop, List.getElem?_drop])
                          simpa using this
                        have q6 := unquotes_any (some ⟨g2, if cap = jb + 1 then 0 else jb + 1, none⟩) (cap - (jb + 1)) (nm.drop (jb + 1)) w5 HT5.out.t hrowD (by rw [hlD]; omega) (fun x hx => by have := HNML.out x (List.mem_of_mem_drop hx); omega)
                        rw [hlD] at q6
                        unfold UnqPost at q6
                        have HT3 : Hid (testRead atoiA (Wd.data.toList :: r.take k) = match unqAll (nm.drop (jb + 1)), unqAll (nm.take jb) with | some b, some g => some { t with tags := g, barrier := b } | _, _ => none) := by
                          rw [Hid, HT2.out]
                          show namesRead t nm = _
                          unfold namesRead
                          rw [hbar]
                          rfl
                        have HLD := Lib.hid hlD
                        have HLT := Lib.hid hlT
                        have b1 : (0 : Int) ≤ (jb : Int) := by omega
                        have b2 : decide ((jb : Int) < 0) = false := decide_eq_false (by omega)
                        have b3 : (jb : Int) + 1 ≤ (nm.length : Int) := by omega
                        have b4 : (jb : Int) + 1 ≤ (cap : Int) := by omega
                        have b5' : (jb : Int) ≤ (cap : Int) := by omega
                        have b6i : (jb : Int) ≤ 16384 := by omega
                        clear hlD hlT hrowD
                        refine q5.mono ?_
                        rintro e wx ⟨rfl, rfl⟩
                        by_cases hcb : cap = jb + 1
                        case' pos => rw [if_pos hcb, show cap - (jb + 1) = 0 by omega] at q6
                        case' neg => rw [if_neg hcb] at q6; have hcb2 : ¬ (cap - (jb + 1) = 0) := by omega
                        all_goals
                          go_wp2_with fail
                          refine q6.mono ?_
                          rintro e wq ⟨h1, h2⟩
                          cases hq' : unqAll (nm.drop (jb + 1)) with
                          | none =>
                            obtain ⟨rfl, b6'⟩ := h2 hq'
                            have HX : Hid (testRead atoiA (Wd.data.toList :: r.take k) = none) := by rw [Hid, HT3.out, hq']
                            have := HNO.out _ (bstep bw5 b6') HX.out
                            unfold wrongP at *
                            exact ⟨rfl, this⟩
                          | some gb =>
                            obtain ⟨v5, rfl, hownB, bq⟩ := h1 gb hq'
                            rw [hq'] at HT3
                            obtain ⟨A5, cq5, rfl, hc5, hr5'⟩ := hownB.row.to (n := gb.length) (by simp)
                            have htq := (bq.block _ (lt_of_block HT9.out)).trans HT9.out
                            have f5 := fzB htq 5
                            have c5q := cell_of_row wq W9.heap.size 5 _ _ (0, 0) htq
                            simp at c5q
                            have h59 : W9.heap.size < w5.heap.size := lt_of_block HT9.out
                            have hbqs := bq.size
                            obtain ⟨Wq, hWq⟩ : ∃ Wq, Wq = wq.setCell ⟨W9.heap.size, 5, none⟩ (.slice A5 gb.length cq5) := ⟨_, rfl⟩
                            have bwQ : Below wr.heap.size wr Wq := by rw [hWq]; exact (bstep bw5 bq).setCell (p := ⟨W9.heap.size, 5, none⟩) (by show wr.heap.size ≤ W9.heap.size; have := b8.size; have := b9.size; omega) _
                            have hzq : Wq.heap.size = wq.heap.size := by rw [hWq]; simp [World.setCell]
                            have htQ : Wq.heap[W9.heap.size]? = some (.cells #[.int .i64 t.at_, .bool t.scan, .bool t.not_, .bool t.careful, .slice none 0 0, .slice A5 gb.length cq5] 79 (0, 0)) := by rw [hWq, heap_setCell_row htq]; rfl
                            have hownQ : Wq.ownsRow w5.heap.size 9 1 (.slice A5 gb.length cq5) gb.length (gb.map S) := by
                              have hu := hownB
                              unfold Own at hu
                              rw [List.length_map] at hu
                              have hcs := chg_setCell wq W9.heap.size 5 (.slice A5 gb.length cq5)
                              rw [← hWq] at hcs
                              exact own_chg hu hcs fun g hg e => by have := (hu.lt g hg).1; omega
                            have hrowT : RowAt Wq (some ⟨g2, 0, none⟩) ((nm.take jb).map S) := by
                              have hn6 := HN6.out
                              have hf := own_firm (X := fun b => b = W9.heap.size ∨ w5.heap.size ≤ b) hn6 fun g hg e => by
                                have := hn6.lt g hg
                                rcases e with e | e <;> omega
                              have cq : Chg (fun b => b = W9.heap.size ∨ w5.heap.size ≤ b) w5 Wq := by
                                rw [hWq]
                                exact (Chg.of_new bq).trans (chg_setCell wq W9.heap.size 5 (.slice A5 gb.length cq5)) fun b _ e => Or.inl e
                              obtain ⟨A', c', e', _, h⟩ := hf Wq cq.size cq.block
                              cases e'
                              rw [List.map_take]
                              exact RowAt.take h jb
                            have q7 := unquotes_any (some ⟨g2, 0, none⟩) cap (nm.take jb) Wq (hT.below (bstep bR bwQ)).t hrowT (by rw [HLT.out]; omega) (fun x hx => by have := HNML.out x (List.mem_of_mem_take hx); omega)
                            rw [HLT.out] at q7
                            try rw [hcb] at q7
                            unfold UnqPost at q7
                            have HTQ := Lib.hid htQ
                            have HOQ := Lib.hid hownQ
                            have hbl0 : gb.length ≤ 20000 := by have := unqAll_len hq'; rw [HLD.out] at this; omega
                            clear q6 h1 h2 hownB hrowT htQ hownQ hr5' htq
                            go_wp2_with fail
                            rw [← hWq]
                            refine q7.mono ?_
                            rintro e w6 ⟨h1, h2⟩
                            cases hq : unqAll (nm.take jb) with
                            | none =>
                              obtain ⟨rfl, b6'⟩ := h2 hq
                              have HX : Hid (testRead atoiA (Wd.data.toList :: r.take k) = none) := by rw [Hid, HT3.out, hq]
                              have := HNO.out _ (bstep bwQ b6') HX.out
                              unfold wrongP at *
                              exact ⟨rfl, this⟩
                            | some gs =>
                              obtain ⟨v6, rfl, hown7, b6'⟩ := h1 gs hq
                              rw [hq] at HT3
                              have bw6 := bstep bwQ b6'
                              have ht9 := (b6'.block _ (lt_of_block HTQ.out)).trans HTQ.out
                              have hgl0 : gs.length ≤ 20000 := by have := unqAll_len hq; rw [HLT.out] at this; omega
                              have h5s : wr.heap.size ≤ Wq.heap.size := bwQ.size
                              have h59q : W9.heap.size < Wq.heap.size := by omega
                              have h5w : wr.heap.size ≤ w5.heap.size := bw5.size
                              have HOB : Hid (w6.ownsRow w5.heap.size 9 1 (.slice A5 gb.length cq5) gb.length (gb.map S)) := own_chg HOQ.out (Chg.of_new (X := fun _ => False) b6') fun _ _ e => e
                              clear q7 hWq
                              obtain ⟨A6, c6, rfl, hc6, hr6'⟩ := hown7.row.to (n := gs.length) (by simp)
                              obtain ⟨Ax, cx, rfl, hcx, _⟩ := RowL.form HTL.out
                              obtain ⟨xs, hx1, hx2, hx3⟩ := HTL.out
                              have hrb := (bw6.block _ (lt_of_block HRB.out)).trans HRB.out
                              have c0 := cell_of_row w6 W9.heap.size 0 _ _ (0, 0) ht9
                              have c1 := cell_of_row w6 W9.heap.size 1 _ _ (0, 0) ht9
                              have c2 := cell_of_row w6 W9.heap.size 2 _ _ (0, 0) ht9
                              have c3 := cell_of_row w6 W9.heap.size 3 _ _ (0, 0) ht9
                              have c4 := cell_of_row w6 W9.heap.size 4 _ _ (0, 0) ht9
                              have c5 := cell_of_row w6 W9.heap.size 5 _ _ (0, 0) ht9
                              have f4 := fzB ht9 4
                              have d2 := cell_of_row w6 W1.heap.size 2 _ _ (0, 0) hrb
                              simp at c0 c1 c2 c3 c4 c5 d2
                              have hne9 : W9.heap.size ≠ W1.heap.size := by have := lt_of_block HRB.out; have := b8.size; have := b9.size; omega
                              clear h1 h2 ht9 hrb
                              have hzs : (w6.setCell ⟨W9.heap.size, 4, none⟩ (.slice A6 gs.length c6)).heap.size = w6.heap.size := by simp [World.setCell]
                              have hwr9 : wr.heap.size ≤ W9.heap.size := by have := b8.size; have := b9.size; omega
                              have bWT : Below wr.heap.size wr ((w6.setCell ⟨W9.heap.size, 4, none⟩ (.slice A6 gs.length c6)).alloc (.cells #[.int .i64 t.at_, .bool t.scan, .bool t.not_, .bool t.careful, .slice A6 gs.length c6, .slice A5 gb.length cq5] 79)) := (bw6.setCell (p := ⟨W9.heap.size, 4, none⟩) hwr9 _).alloc (by rw [hzs]; exact bw6.size) _
                              have hownT : (((w6.setCell ⟨W9.heap.size, 4, none⟩ (.slice A6 gs.length c6)).alloc (.cells #[.int .i64 t.at_, .bool t.scan, .bool t.not_, .bool t.careful, .slice A6 gs.length c6, .slice A5 gb.length cq5] 79))).ownsRow W7.heap.size 79 6 (.slice Ax done.length cx) done.length (tstCells done xs) := own_chg hx2 (Chg.of_new (X := fun _ => False) bWT) (fun _ _ e => e)
                              have hnewsT : ∀ j u, [Value.int .i64 t.at_, .bool t.scan, .bool t.not_, .bool t.careful, .slice A6 gs.length c6, .slice A5 gb.length cq5][j]? = some u → (((w6.setCell ⟨W9.heap.size, 4, none⟩ (.slice A6 gs.length c6)).alloc (.cells #[.int .i64 t.at_, .bool t.scan, .bool t.not_, .bool t.careful, .slice A6 gs.length c6, .slice A5 gb.length cq5] 79))).cell? ((⟨w6.heap.size, 0, none⟩ : Addr).add j) = some u := by
                                have h := World.news_of_block (heap_alloc_new (w6.setCell ⟨W9.heap.size, 4, none⟩ (.slice A6 gs.length c6)) (.cells #[.int .i64 t.at_, .bool t.scan, .bool t.not_, .bool t.careful, .slice A6 gs.length c6, .slice A5 gb.length cq5] 79))
                                rw [hzs] at h
                                exact h
                              have hdn := HDN.out.1
                              have h63T : done.length + 1 ≤ maxLen := by unfold maxLen; omega
                              have hbyT : (done.length + 1) * 64 ≤ 140737488355328 := by omega
                              have hbaseT : W7.heap.size ≤ (((w6.setCell ⟨W9.heap.size, 4, none⟩ (.slice A6 gs.length c6)).alloc (.cells #[.int .i64 t.at_, .bool t.scan, .bool t.not_, .bool t.careful, .slice A6 gs.length c6, .slice A5 gb.length cq5] 79))).heap.size := by have := bWT.size; have := HCH.out.size; omega
                              obtain ⟨ic2, ci2, cy0, cy1, cy2⟩ := info_parts tstInfo
                              have HX12 := Lib.hid (And.intro hx1 hx3)
                              have HXLT : Hid (∀ g, (Value.slice Ax done.length cx).ownBlock = some g → g < wr.heap.size) := fun g hg => (hx2.lt g hg).2
                              clear hx1 hx3 hx2
                              go_wp2_with (at_builtin; refine wpList_append_lies _ rfl (.tmp 104) (.tmp 106) 40 rfl W7.heap.size 79 ic2 _ 6 64 Tryz.underlying40 ci2 cy0 cy1 cy2 rfl (by decide) (.slice Ax done.length cx) done.length (tstCells done xs) rfl hownT ⟨w6.heap.size, 0, none⟩ 1 1 [.int .i64 t.at_, .bool t.scan, .bool t.not_, .bool t.careful, .slice A6 gs.length c6, .slice A5 gb.length cq5] rfl rfl hnewsT (by simp [Value.oneCell']) (by decide) h63T hbyT hbaseT (w6.heap.size + 1) (by simp) ?_; intro g3 cap3 w7 hown8 hgr8 hat8 hlt8; have hrb7 := (hgr8.block W1.heap.size (by have := bWT.size; have := lt_of_block HRB.out; omega) (fun e => by have := (hownT.lt _ e.symm).1; omega)).trans ((bWT.block _ (lt_of_block HRB.out)).trans HRB.out); have r2 := cell_of_row w7 W1.heap.size 2 _ _ (0, 0) hrb7; have rf2 := fzB hrb7 2; simp at r2)
                              go_roundw
                              case rel =>
                                obtain ⟨m', hm', HTR2⟩ := HS1.out { t with tags := gs, barrier := gb } HT3.out
                                have hrbE := heap_setCell_row (k := 2) (u := .slice (some ⟨g3, 0, none⟩) (done.length + 1) cap3) hrb7
                                have cS := chg_setCell w7 W1.heap.size 2 (.slice (some ⟨g3, 0, none⟩) (done.length + 1) cap3)
                                have hdrl := List.length_drop (i := k) (l := r)
                                rw [hrl] at hdrl
                                have hTn : TLst W7.heap.size w7 (.slice (some ⟨g3, 0, none⟩) (done.length + 1) cap3) (done ++ [{ t with tags := gs, barrier := gb }]) := by
                                  refine RowL.add (p := (.slice A6 gs.length c6, .slice A5 gb.length cq5)) HX12.out.1 hownT (HX12.out.2.step (Chg.of_new (X := fun _ => False) bWT) (fun _ _ e => e.elim) (fun _ _ e => e)) ?_ (tstCells_snoc done xs { t with tags := gs, barrier := gb } (.slice A6 gs.length c6, .slice A5 gb.length cq5) HX12.out.1) hown8 hgr8 (hat8.imp id fun e => by rw [e, World.size_alloc, hzs]; omega)
                                  have hu := hown7
                                  unfold Own at hu
                                  rw [List.length_map] at hu
                                  have c6T := (chg_setCell w6 W9.heap.size 4 (.slice A6 gs.length c6)).trans (chg_alloc (fun _ => False) _ (.cells #[.int .i64 t.at_, .bool t.scan, .bool t.not_, .bool t.careful, .slice A6 gs.length c6, .slice A5 gb.length cq5] 79)) fun _ _ e => e.elim
                                  have hWs := HCH.out.size
                                  refine ((own_firm (own_chg hu c6T fun g hg e => ?_) fun g hg e => ?_).and (own_firm (own_chg HOB.out c6T fun g hg e => by have := (HOB.out.lt g hg).1; omega) fun g hg e => by (have := (HOB.out.lt g hg).1; rcases e with e | e <;> first | omega | (have := HXLT.out g e; omega)))).mono fun w h => ⟨h.1, ?_⟩
                                  · have := (hu.lt g hg).1; omega
                                  · have := (hu.lt g hg).1
                                    rcases e with e | e
                                    · omega
                                    · have := HXLT.out g e; omega
                                  · exact h.2
                                refine ⟨done ++ [{ t with tags := gs, barrier := gb }], r.drop k, i + k + 1, m', if cy = k + 1 then i + 1 else i + 1 + (k + 1), cy - (k + 1), .slice (some ⟨g3, 0, none⟩) (done.length + 1) cap3, ?_, ?_, ?_, ?_, ?_, ?_, HDR.out, ?_, ?_, ?_, ?_, ?_⟩
                                · rw [hdrl]; split <;> first | rfl | rw [Nat.sub_self]
                                · rw [hdrl]; omega
                                · intro hne
                                  have : (r.drop k).length ≠ 0 := fun e => hne (List.eq_nil_of_length_eq_zero e)
                                  rw [if_neg (by omega)]; omega
                                · have := congrArg (List.drop (k + 1)) HRI.out
                                  rw [List.drop_drop, List.drop_succ_cons] at this
                                  rw [← this]; congr 1
                                · omega
                                · have := HRM.out
                                  rw [List.length_cons, hrl] at this
                                  rw [hdrl]; omega
                                · rw [Hid]; simpa using hrbE
                                · exact RowL.chg hTn cS fun b _ e => by omega
                                · exact ((HCH.out.trans (Chg.of_new (X := fun _ => False) bWT) fun _ _ e => e.elim).trans (Chg.of_grown hgr8) fun b _ e => Or.inr (hownT.lt b e).1).trans cS fun b _ e => Or.inl e
                                · exact HTR2
                                · refine ⟨by rw [List.length_append]; show done.length + 1 ≤ _; omega, fun x hx => ?_⟩
                                  rcases List.mem_append.1 hx with hx | hx
                                  · exact HDN.out.2 x hx
                                  · simp only [List.mem_singleton] at hx
                                    subst hx
                                    exact ⟨hgl0, hbl0⟩
                              case measure => first | (show 0 < _ + 1; omega) | (show _ - k < _ + 1; omega)
end Go.Proofs.YtplipnchkkhdaaaGreatDoor
