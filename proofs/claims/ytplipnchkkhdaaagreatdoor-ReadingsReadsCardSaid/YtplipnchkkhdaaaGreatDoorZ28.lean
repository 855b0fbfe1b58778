/- Walk of the reference of layer 33: Rules. -/
import Derived.Test.YtplipnchkkhdaaaGreatDoorZ27
import Derived.Test.YtplipnchkkhdaaaGreatDoorZ23
import Derived.Test.YtplipnchkkhdaaaGreatDoorZ19
import Derived.Test.YtplipnchkkhdaaaGreatDoorZ13
namespace Go.Proofs.YtplipnchkkhdaaaGreatDoor
open Go.RowKit
set_option linter.unusedVariables false

theorem Bey.rvrule {W : World} (r : Rul) (A1 A2 : Option Addr) (c1 c2 : Nat) (hV : RulV W (.slice A1 r.target.length c1, .slice A2 r.tests.length c2) r) (hl : SizedR r) {b : Bool} (hb : rulOk r = b) (z : Bey W) :
    Calls Tryz.prog 23 #[.agg #[.int .i64 r.op, .slice A1 r.target.length c1, .slice A2 r.tests.length c2, .bool r.uns]] z.w fun e w' => e = .returned (.bool b) ∧ ∃ z' : Bey W, w' = z'.w := by
  refine (rvrule_any r A1 A2 c1 c2 z.w (hV.below z.h) hl).mono ?_
  rintro e w' ⟨rfl, b'⟩
  exact ⟨by rw [hb], ⟨w', bstep z.h b'⟩, rfl⟩
theorem Bey.rrule {W : World} (r : Rul) (A1 A2 : Option Addr) (c1 c2 : Nat) (hV : RulV W (.slice A1 r.target.length c1, .slice A2 r.tests.length c2) r) (hok : rulOk r = true) {U : ByteArray} (hU : (⟨(ruleL r).toArray⟩ : ByteArray) = U) (z : Bey W) :
    Calls Tryz.prog 55 #[.agg #[.int .i64 r.op, .slice A1 r.target.length c1, .slice A2 r.tests.length c2, .bool r.uns]] z.w fun e w' => e = .returned (.string U) ∧ ∃ z' : Bey W, w' = z'.w := by
  refine (rrule_any r A1 A2 c1 c2 z.w (hV.below z.h) hok).mono ?_
  rintro e w' ⟨rfl, b'⟩
  exact ⟨by rw [hU], ⟨w', bstep z.h b'⟩, rfl⟩
set_option maxHeartbeats 8000000 in
set_option maxRecDepth 100000 in
theorem rrules_any (s : ByteArray) (w : World) : Calls Tryz.prog 29 #[.string s] w (RulPost w (readText ruleStepR s.data.toList)) := by
  obtain ⟨ic, ci, cz0, cz1, cz2⟩ := info_parts rulInfo
  by_cases hs : 16384 < s.size
  · have HP : Hid (readText ruleStepR s.data.toList = ([], 0, 2)) := by unfold Hid readText; rw [if_pos (by rw [← Lib.size_eq]; exact hs)]
    have d1 : (16384 : Int) < (s.size : Int) := by omega
    clear hs
    go_enter Tryz.func29, Tryz.ntmps29
    go_wp2_with fail
    go_returns
    unfold RulPost
    rw [HP.out]
    exact ⟨_, rfl, RulsV.nil _, Below.refl _ _⟩
  · have HP : Hid (readText ruleStepR s.data.toList = readAll ruleStepR [] (linesL s.data.toList)) := by unfold Hid readText; rw [if_neg (by rw [← Lib.size_eq]; exact hs)]
    have d1 : (s.size : Int) ≤ 16384 := by omega
    have p1 := rlines_any s w (by omega)
    have HM : Hid (∀ x ∈ linesL s.data.toList, x.2 ≠ [] ∧ x.2.length ≤ 16384 ∧ x.1 ≤ 16384) := fun x hx => by
      have := lines_mem hx
      rw [← Lib.size_eq] at this
      exact ⟨this.1, by omega, by omega⟩
    clear hs
    go_enter Tryz.func29, Tryz.ntmps29
    go_wp2_with fail
    refine p1.mono ?_
    rintro e w1 ⟨vL, rfl, hown1, b1⟩
    clear p1
    obtain ⟨AL, cL, rfl, hcL, _⟩ := own_sl hown1
    have HO1 := Lib.hid hown1
    clear hown1
    generalize linesL s.data.toList = ls at *
    have hlen : ls.length ≤ 9223372036854775807 := by have := own_len HO1.out; unfold maxLen at this; omega
    go_wp2_with fail
    go_loopw [2, 3, 4, 5, 7, 8] (fun _ _ _ v i _ wr => ∃ (k : Nat) (l : List Rul), i = .int .i64 k ∧ k ≤ ls.length ∧ Below w1.heap.size w1 wr ∧ Hid (RLst w1.heap.size wr v l) ∧ Hid (readAll ruleStepR [] ls = readAll ruleStepR l (ls.drop k))) (fun _ _ _ _ i _ _ => ls.length - (intOf i).toNat)
    case atStart => exact ⟨0, [], rfl, by omega, Below.refl _ _, RowL.nil _ _ rfl, by simp [Hid]⟩
    case round =>
      obtain ⟨k, l, rfl, hk, hB, HL, HR⟩ := hrel
      obtain ⟨xs, e1, e2, e3⟩ := HL.out
      obtain ⟨A, cv, rfl, hcv, _⟩ := own_sl e2
      by_cases hlt : k < ls.length
      · obtain ⟨gL, cL', e0, hg1, hg2⟩ := HO1.out.form (by omega)
        simp only [Value.slice.injEq, true_and] at e0
        obtain ⟨rfl, rfl⟩ := e0
        obtain ⟨gl1, gl2⟩ := lineCells_get ls k hlt
        have kL1 : w1.cell? ⟨gL, k * 2, none⟩ = some (S ls[k].2) := by rw [HO1.out.cellAt (k * 2) (by omega), Nat.mul_comm]; exact gl1
        have kP1 : w1.cell? ⟨gL, k * 2 + 1, none⟩ = some (.int .i64 (ls[k].1 : Int)) := by rw [HO1.out.cellAt (k * 2 + 1) (by omega), Nat.mul_comm]; exact gl2
        obtain ⟨m1, m2, m3⟩ := HM.out ls[k] (List.getElem_mem _)
        have HN : Hid (∀ l', ruleStepR l ls[k].2 = some l' → readAll ruleStepR [] ls = readAll ruleStepR l' (ls.drop (k + 1))) := fun l' h => HR.out.trans (readAll_next hlt h)
        have HE : Hid (ruleStepR l ls[k].2 = none → readText ruleStepR s.data.toList = ([], ls[k].1, 3)) := fun h => HP.out.trans (HR.out.trans (readAll_no hlt h))
        generalize ls[k] = x at *
        obtain ⟨p, line⟩ := x
        obtain ⟨LB, hLB⟩ : ∃ F : ByteArray, (⟨line.toArray⟩ : ByteArray) = F := ⟨_, rfl⟩
        have hLd : line = LB.data.toList := by rw [← hLB]
        simp only [S] at kL1
        rw [hLB] at kL1
        simp only at kP1 m1 m2 m3 HN HE
        clear hLB gl1 gl2 HR m1
        have hps : LB.size ≤ 16384 := by rw [Lib.size_eq, ← hLd]; exact m2
        subst hLd
        have kL := (hB.cell (p := ⟨gL, k * 2, none⟩) hg2).trans kL1
        have k0 : (0 : Int) ≤ (k : Int) := by omega
        have k1 : (k : Int) < (ls.length : Int) := by omega
        have p2 := rreadRule_any LB wr (by omega)
        have hsz := ruleR_sized LB.data.toList (by rw [← Lib.size_eq]; omega)
        have hst : ruleStepR l LB.data.toList = if rulOk (ruleR LB.data.toList) = true ∧ ruleL (ruleR LB.data.toList) = LB.data.toList ∧ l.length < 100 then some (l ++ [ruleR LB.data.toList]) else none := rfl
        generalize ruleR LB.data.toList = r at *
        have hcase : (rulOk r = false ∧ ruleStepR l LB.data.toList = none) ∨ (rulOk r = true ∧ ((ruleL r ≠ LB.data.toList ∧ ruleStepR l LB.data.toList = none) ∨ (ruleL r = LB.data.toList ∧ ((100 ≤ l.length ∧ ruleStepR l LB.data.toList = none) ∨ (l.length < 100 ∧ ruleStepR l LB.data.toList = some (l ++ [r])))))) := by
          rw [hst]
          cases c2 : rulOk r with
          | false => left; exact ⟨rfl, if_neg (fun h => by cases h.1)⟩
          | true =>
            right
            refine ⟨rfl, ?_⟩
            by_cases c3 : ruleL r = LB.data.toList
            · right
              refine ⟨c3, ?_⟩
              by_cases c4 : l.length < 100
              · right; exact ⟨c4, if_pos ⟨rfl, c3, c4⟩⟩
              · left; exact ⟨by omega, if_neg (fun h => c4 h.2.2)⟩
            · left; exact ⟨c3, if_neg (fun h => c3 h.2.1)⟩
        have HSZ := Lib.hid hsz
        have E2 := Lib.hid e2
        have E3 := Lib.hid e3
        clear hst hsz e2 e3 m2
        go_wp2_with fail
        refine p2.mono ?_
        rintro e W2 ⟨vT, vX, rfl, hF, b2⟩
        clear p2
        obtain ⟨A1, c1, rfl⟩ : ∃ A c, vT = .slice A r.target.length c := by obtain ⟨⟨A, c, e, _, _⟩, _⟩ := hF.now; exact ⟨A, c, e⟩
        obtain ⟨A2, c2, rfl⟩ : ∃ A c, vX = .slice A r.tests.length c := by obtain ⟨_, _, ⟨A, c, e, _, _⟩, _⟩ := hF.now; exact ⟨A, c, e⟩
        have bRC : Below wr.heap.size wr (W2.alloc (.cells #[.int .i64 r.op, .slice A1 r.target.length c1, .slice A2 r.tests.length c2, .bool r.uns] 42)) := b2.alloc b2.size _
        have hVC := hF.now.below ((Below.refl W2.heap.size W2).alloc (Nat.le_refl _) (.cells #[.int .i64 r.op, .slice A1 r.target.length c1, .slice A2 r.tests.length c2, .bool r.uns] 42))
        have r0 := at3 W2 #[.int .i64 r.op, .slice A1 r.target.length c1, .slice A2 r.tests.length c2, .bool r.uns] 42 0 _ rfl
        have r1 := at3 W2 #[.int .i64 r.op, .slice A1 r.target.length c1, .slice A2 r.tests.length c2, .bool r.uns] 42 1 _ rfl
        have r2 := at3 W2 #[.int .i64 r.op, .slice A1 r.target.length c1, .slice A2 r.tests.length c2, .bool r.uns] 42 2 _ rfl
        have r3 := at3 W2 #[.int .i64 r.op, .slice A1 r.target.length c1, .slice A2 r.tests.length c2, .bool r.uns] 42 3 _ rfl
        have hWCs : W2.heap.size < (W2.alloc (.cells #[.int .i64 r.op, .slice A1 r.target.length c1, .slice A2 r.tests.length c2, .bool r.uns] 42)).heap.size := by simp
        have hFC : Firm (fun b => b < wr.heap.size) (W2.alloc (.cells #[.int .i64 r.op, .slice A1 r.target.length c1, .slice A2 r.tests.length c2, .bool r.uns] 42)) (fun W => RulV W (.slice A1 r.target.length c1, .slice A2 r.tests.length c2) r) := hF.step (chg_alloc (fun _ => False) W2 _) (fun _ _ e => e.elim) (fun _ _ e => e)
        have HFC := Lib.hid hFC
        clear hF hFC
        go_wp2_with fail
        obtain ⟨WC, hWC⟩ : ∃ WC, W2.alloc (.cells #[.int .i64 r.op, .slice A1 r.target.length c1, .slice A2 r.tests.length c2, .bool r.uns] 42) = WC := ⟨_, rfl⟩
        rw [hWC] at bRC hVC r0 r1 r2 r3 hWCs HFC ⊢
        clear hWC
        have kLC := (bRC.cell (p := ⟨gL, k * 2, none⟩) (Nat.lt_of_lt_of_le hg2 hB.size)).trans kL
        have bWC := hB.trans (bRC.mono hB.size)
        have kPC := (bWC.cell (p := ⟨gL, k * 2 + 1, none⟩) hg2).trans kP1
        have HVC := Lib.hid hVC
        clear hVC kL kL1 kP1
        rcases hcase with ⟨hv, hstep⟩ | ⟨hv, hcase⟩
        · have HX := Lib.hid (HE.out hstep)
          clear HE HN hstep
          have q1 := fun z : Bey WC => Bey.rvrule r A1 A2 c1 c2 HVC.out HSZ.out hv z
          haveI := Bey.ne WC
          have t0 := Bey.cell r0 hWCs
          have t1 := Bey.cell r1 hWCs
          have t2 := Bey.cell r2 hWCs
          have t3 := Bey.cell r3 hWCs
          have tL := Bey.cell kLC (Nat.lt_of_lt_of_le hg2 bWC.size)
          refine wp_region_class 17 (fun x => ∃ z : Bey WC, x = z.w) (by kernel_rfl) (by kernel_rfl) ⟨⟨WC.drew, (Below.refl _ _).drew⟩, rfl⟩ ?_
          simp only [List.take_succ_cons, List.take_zero, List.drop_succ_cons, List.drop_zero]
          repeat (go_big_quiet_step (exact q1 _))
          refine wpQuiet_nil ?_
          intro W3 hw'
          obtain ⟨⟨_, b3⟩, rfl⟩ := hw'
          try dsimp only
          have kP3 := (b3.cell (p := ⟨gL, k * 2 + 1, none⟩) (Nat.lt_of_lt_of_le hg2 bWC.size)).trans kPC
          have bW3 := bWC.trans (b3.mono bWC.size)
          go_wp2_with fail
          go_quiet (fail)
          go_wp2_with fail
          go_returns
          unfold RulPost
          rw [HX.out]
          exact ⟨_, rfl, RulsV.nil _, b1.trans (bdrew (bW3.mono b1.size) _)⟩
        · rcases hcase with ⟨hu, hstep⟩ | ⟨hu, hcase⟩
          · have HX := Lib.hid (HE.out hstep)
            obtain ⟨U, hU⟩ : ∃ U : ByteArray, (⟨(ruleL r).toArray⟩ : ByteArray) = U := ⟨_, rfl⟩
            have hUT : ¬ U = LB := fun e => hu (by rw [← e, ← hU])
            have hUT2 := ba_ne hUT
            have q1 := fun z : Bey WC => Bey.rvrule r A1 A2 c1 c2 HVC.out HSZ.out hv z
            have q2 := fun z : Bey WC => Bey.rrule r A1 A2 c1 c2 HVC.out hv hU z
            clear HE HN hstep hu hU
            haveI := Bey.ne WC
            have t0 := Bey.cell r0 hWCs
            have t1 := Bey.cell r1 hWCs
            have t2 := Bey.cell r2 hWCs
            have t3 := Bey.cell r3 hWCs
            have tL := Bey.cell kLC (Nat.lt_of_lt_of_le hg2 bWC.size)
            refine wp_region_class 17 (fun x => ∃ z : Bey WC, x = z.w) (by kernel_rfl) (by kernel_rfl) ⟨⟨WC.drew, (Below.refl _ _).drew⟩, rfl⟩ ?_
            simp only [List.take_succ_cons, List.take_zero, List.drop_succ_cons, List.drop_zero]
            repeat (go_big_quiet_step (first | exact q1 _ | exact q2 _))
            refine wpQuiet_nil ?_
            intro W3 hw'
            obtain ⟨⟨_, b3⟩, rfl⟩ := hw'
            try dsimp only
            have kP3 := (b3.cell (p := ⟨gL, k * 2 + 1, none⟩) (Nat.lt_of_lt_of_le hg2 bWC.size)).trans kPC
            have bW3 := bWC.trans (b3.mono bWC.size)
            go_wp2_with fail
            go_quiet (fail)
            go_wp2_with fail
            go_returns
            unfold RulPost
            rw [HX.out]
            exact ⟨_, rfl, RulsV.nil _, b1.trans (bdrew (bW3.mono b1.size) _)⟩
          · have hU : (⟨(ruleL r).toArray⟩ : ByteArray) = LB := by rw [hu]
            have q1 := fun z : Bey WC => Bey.rvrule r A1 A2 c1 c2 HVC.out HSZ.out hv z
            have q2 := fun z : Bey WC => Bey.rrule r A1 A2 c1 c2 HVC.out hv hU z
            clear hu hU
            rcases hcase with ⟨h100, hstep⟩ | ⟨h100, hstep⟩
            · have HX := Lib.hid (HE.out hstep)
              clear HE HN hstep
              have d100 : (100 : Int) ≤ (l.length : Int) := by omega
              haveI := Bey.ne WC
              have t0 := Bey.cell r0 hWCs
              have t1 := Bey.cell r1 hWCs
              have t2 := Bey.cell r2 hWCs
              have t3 := Bey.cell r3 hWCs
              have tL := Bey.cell kLC (Nat.lt_of_lt_of_le hg2 bWC.size)
              refine wp_region_class 17 (fun x => ∃ z : Bey WC, x = z.w) (by kernel_rfl) (by kernel_rfl) ⟨⟨WC.drew, (Below.refl _ _).drew⟩, rfl⟩ ?_
              simp only [List.take_succ_cons, List.take_zero, List.drop_succ_cons, List.drop_zero]
              repeat (go_big_quiet_step (first | exact q1 _ | exact q2 _))
              refine wpQuiet_nil ?_
              intro W3 hw'
              obtain ⟨⟨_, b3⟩, rfl⟩ := hw'
              try dsimp only
              have kP3 := (b3.cell (p := ⟨gL, k * 2 + 1, none⟩) (Nat.lt_of_lt_of_le hg2 bWC.size)).trans kPC
              have bW3 := bWC.trans (b3.mono bWC.size)
              go_wp2_with fail
              go_quiet (fail)
              go_wp2_with fail
              go_returns
              unfold RulPost
              rw [HX.out]
              exact ⟨_, rfl, RulsV.nil _, b1.trans (bdrew (bW3.mono b1.size) _)⟩
            · have HX := Lib.hid (HN.out _ hstep)
              clear HE HN hstep
              have d100 : decide ((100 : Int) ≤ (l.length : Int)) = false := decide_eq_false (by omega)
              haveI := Bey.ne WC
              have t0 := Bey.cell r0 hWCs
              have t1 := Bey.cell r1 hWCs
              have t2 := Bey.cell r2 hWCs
              have t3 := Bey.cell r3 hWCs
              have tL := Bey.cell kLC (Nat.lt_of_lt_of_le hg2 bWC.size)
              refine wp_region_class 17 (fun x => ∃ z : Bey WC, x = z.w) (by kernel_rfl) (by kernel_rfl) ⟨⟨WC.drew, (Below.refl _ _).drew⟩, rfl⟩ ?_
              simp only [List.take_succ_cons, List.take_zero, List.drop_succ_cons, List.drop_zero]
              repeat (go_big_quiet_step (first | exact q1 _ | exact q2 _))
              refine wpQuiet_nil ?_
              intro W3 hw'
              obtain ⟨⟨_, b3⟩, rfl⟩ := hw'
              try dsimp only
              clear q1 q2 t0 t1 t2 t3 tL
              have u0 := (b3.cell (p := ⟨W2.heap.size, 0, none⟩) hWCs).trans r0
              have u1 := (b3.cell (p := ⟨W2.heap.size, 1, none⟩) hWCs).trans r1
              have u2' := (b3.cell (p := ⟨W2.heap.size, 2, none⟩) hWCs).trans r2
              have u3' := (b3.cell (p := ⟨W2.heap.size, 3, none⟩) hWCs).trans r3
              have bW3 := bWC.trans (b3.mono bWC.size)
              have bU := (Below.refl W3.heap.size W3).alloc (Nat.le_refl _) (.cells #[.int .i64 r.op, .slice A1 r.target.length c1, .slice A2 r.tests.length c2, .bool r.uns] 42)
              have bR3 := bRC.trans (b3.mono bRC.size)
              have bT := bW3.alloc bW3.size (.cells #[.int .i64 r.op, .slice A1 r.target.length c1, .slice A2 r.tests.length c2, .bool r.uns] 42)
              have bTr := bR3.alloc bR3.size (.cells #[.int .i64 r.op, .slice A1 r.target.length c1, .slice A2 r.tests.length c2, .bool r.uns] 42)
              have hown3 : (W3.alloc (.cells #[.int .i64 r.op, .slice A1 r.target.length c1, .slice A2 r.tests.length c2, .bool r.uns] 42)).ownsRow w1.heap.size 42 4 (.slice A l.length cv) l.length (rulCells l xs) := own_chg E2.out (Chg.of_new (X := fun _ => False) bTr) (fun _ _ e => e)
              have hnews := World.news_of_block (heap_alloc_new W3 (.cells #[.int .i64 r.op, .slice A1 r.target.length c1, .slice A2 r.tests.length c2, .bool r.uns] 42))
              have h63 : l.length + 1 ≤ maxLen := by unfold maxLen; omega
              have hby : (l.length + 1) * 64 ≤ 140737488355328 := by omega
              have hbase : w1.heap.size ≤ (W3.alloc (.cells #[.int .i64 r.op, .slice A1 r.target.length c1, .slice A2 r.tests.length c2, .bool r.uns] 42)).heap.size := bT.size
              go_wp2_with (at_builtin; refine wpList_append_lies _ rfl (.tmp 49) (.tmp 51) 37 rfl w1.heap.size 42 ic _ 4 64 Tryz.underlying37 ci cz0 cz1 cz2 rfl (by decide) _ l.length (rulCells l xs) rfl hown3 ⟨W3.heap.size, 0, none⟩ 1 1 [.int .i64 r.op, .slice A1 r.target.length c1, .slice A2 r.tests.length c2, .bool r.uns] rfl rfl hnews (by simp [Value.oneCell']) (by decide) h63 hby hbase (W3.heap.size + 1) (by simp) ?_; intro g2 cap w5 hown5 hgr5 hat5 hlt5)
              have f3 := E3.out.step (X' := fun b => b < w1.heap.size ∨ (Value.slice A l.length cv).ownBlock = some b) (Chg.of_new (X := fun _ => False) bTr) (fun _ _ e => e.elim) (fun _ _ e => e)
              have hs1 := hB.size
              have fp := (HFC.out.step (X' := fun b => b < wr.heap.size) (Chg.of_new (X := fun _ => False) (b3.alloc b3.size (.cells #[.int .i64 r.op, .slice A1 r.target.length c1, .slice A2 r.tests.length c2, .bool r.uns] 42))) (fun _ _ e => e.elim) (fun _ _ e => e)).sub (X' := fun b => b < w1.heap.size ∨ (Value.slice A l.length cv).ownBlock = some b) (fun b _ e => by
                rcases e with e | e
                · omega
                · exact (E2.out.lt b e).2)
              have hadd := Lib.hid (RowL.add (cells := rulCells) (R := RulV) (p := (.slice A1 r.target.length c1, .slice A2 r.tests.length c2)) (a := r) e1 hown3 f3 fp (rulCells_snoc l xs r (.slice A1 r.target.length c1, .slice A2 r.tests.length c2) e1) hown5 hgr5 (hat5.imp id fun e => by rw [e]; simp))
              go_roundw
              case rel => exact ⟨k + 1, l ++ [r], by go_num, by omega, bT.grown hgr5 hbase (fun g hg => (E2.out.lt g hg).1), hadd, HX⟩
              case measure => simp [intOf]; omega
      · obtain rfl : k = ls.length := by omega
        have HX : Hid (readAll ruleStepR [] ls = (l, 0, 0)) := by
          have := HR.out
          rwa [List.drop_length] at this
        have k1 : ¬ ((ls.length : Int) < (ls.length : Int)) := by omega
        go_wp2_with fail
        go_returns
        unfold RulPost
        rw [HP.out, HX.out]
        exact ⟨_, rfl, HL.out.ruls, b1.trans (hB.mono b1.size)⟩
end Go.Proofs.YtplipnchkkhdaaaGreatDoor
