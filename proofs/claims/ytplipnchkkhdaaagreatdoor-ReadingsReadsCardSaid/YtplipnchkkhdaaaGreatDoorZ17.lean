/- From the row's list and the world's shape to what the walks of chapter 33 ask of the package-level variables; the wrap that keeps the shape. -/
import Derived.Test.YtplipnchkkhdaaaGreatDoorCards
import Derived.Test.YtplipnchkkhdaaaGreatDoorZ03
import Derived.Lib.LaidTab
import Derived.Lib.LaidU8
import Derived.Deep.Strs
import Derived.LaidLaws
import Derived.LaidMore
import Derived.ProofKit
import Derived.OpenShut
import Derived.Shelf.Vars
import Derived.Handed
namespace Go.Proofs.YtplipnchkkhdaaaGreatDoor
open Go.RowKit Go.ChangeShapes Go.Lib
set_option linter.unusedVariables false
set_option maxRecDepth 100000

theorem utf8First_is : Pinned.utf8First = firstData := by kernel_rfl
theorem accept_is : (Rows.laid_unicode_utf8_acceptRanges : DataW Unit) = acceptData := by kernel_rfl

theorem drop_step {cs x : List Value} {a n : Nat} (h : (cs.drop a).take n = x) : cs.drop a = x ++ cs.drop (a + n) := by
  rw [← h, ← List.drop_drop]; exact (List.take_append_drop n _).symm

/-- one span of the table: three numbers -/
theorem span_cells {w : World} {fuel : Nat} {cs : List Value} {a b c : Int} {p : List MemPlace}
    (h : DataW.trod (fun _ => ()) Tryz.prog w 0 (fun _ => true) false fuel 131 cs = some (.agg [.lit (.int .i32 a), .lit (.int .i32 b), .lit (.int .i64 c)], p)) : cs = [.int .i32 a, .int .i32 b, .int .i64 c] := by
  obtain ⟨y0, y1, y2, n, hx, hl, h0, h1, h2⟩ := Deep.trod_struct3 Tryz.underlying131 h
  have c1 : Tryz.prog.cellsOf 131 = 3 := by kernel_rfl
  have c2 : Tryz.prog.cellsOf 21 = 1 := by kernel_rfl
  have c3 : Tryz.prog.cellsOf 3 = 1 := by kernel_rfl
  obtain ⟨z0, e0, x0, _⟩ := DataW.trod_int Tryz.underlying21 h0
  obtain ⟨z1, e1, x1, _⟩ := DataW.trod_int Tryz.underlying21 h1
  obtain ⟨z2, e2, x2, _⟩ := DataW.trod_int Tryz.underlying3 h2
  have hx1 := (Prod.mk.inj hx).1
  rw [x0, x1, x2] at hx1
  simp only [DataW.agg.injEq, List.cons.injEq, DataW.lit.injEq, Lit.int.injEq, true_and, and_true] at hx1
  obtain ⟨rfl, rfl, rfl⟩ := hx1
  rw [c2] at e0 e1
  rw [c3] at e2
  rw [c1] at hl
  obtain ⟨u0, u1, u2, rfl⟩ : ∃ u0 u1 u2, cs = [u0, u1, u2] := by
    match cs, hl with
    | [u0, u1, u2], _ => exact ⟨u0, u1, u2, rfl⟩
  simp only [List.drop_succ_cons, List.drop_zero, List.take_succ_cons, List.take_zero, List.cons.injEq, and_true] at e0 e1 e2
  rw [e0, e1, e2]

def aggAt (d : DataW Unit) (i : Nat) : Option (DataW Unit) := match d with | .agg l => l[i]? | _ => none

theorem tabs_of_reads {w : World} (h1 : VarReads Tryz.prog w "unicode/utf8.first" firstData) (h2 : VarReads Tryz.prog w "unicode/utf8.acceptRanges" acceptData)
    (h3 : VarReads Tryz.prog w "strconv.ErrSyntax" Rows.laid_strconv_ErrSyntax) (h4 : VarReads Tryz.prog w "abugida/letters.classes" Rows.laid_abugida_letters_classes)
    (hlt : 9 ≤ w.heap.size) : Tabs w := by
  refine ⟨?_, ?_, ?_, hlt⟩
  · exact utf8Tabs_of_reads (ρ := Tryz.lays197_ren) { Tryz.lays197 with } ⟨by kernel_rfl, by kernel_rfl, by kernel_rfl, by kernel_rfl, by kernel_rfl, by kernel_rfl, by kernel_rfl⟩ h1 h2
  · obtain ⟨g, t, cs, fuel, p, hg, hty, hvar, hd⟩ := h4
    obtain rfl := Option.some.inj ((show Tryz.prog.globalNamed "abugida/letters.classes" = some 0 by kernel_rfl).symm.trans hg)
    obtain rfl := Option.some.inj ((show (Tryz.prog.globals[0]?).map (·.type) = some 132 by kernel_rfl).symm.trans hty)
    have hh : ∃ t fr, w.heap[0]? = some (.cells cs t fr) := by
      unfold World.var? at hvar
      rw [hg, Option.bind_some] at hvar
      cases hz : w.heap[0]? with
      | none => rw [hz] at hvar; cases hvar
      | some o =>
        rw [hz] at hvar
        cases o with
        | cells c t fr => cases hvar; exact ⟨t, fr, rfl⟩
        | _ => cases hvar
    obtain ⟨tt, fr, hh⟩ := hh
    refine ⟨tt, fr, hh.trans ?_⟩
    have c3 : Tryz.prog.cellsOf 131 = 3 := by kernel_rfl
    have key : ∀ i a b c, i < 12 → (Rows.laid_abugida_letters_classes : DataW Unit) = Rows.laid_abugida_letters_classes →
        (∀ ds, (Rows.laid_abugida_letters_classes : DataW Unit) = .agg ds → ds[i]? = some (.agg [.lit (.int .i32 a), .lit (.int .i32 b), .lit (.int .i64 c)])) →
        (cs.toList.drop (i * 3)).take 3 = [.int .i32 a, .int .i32 b, .int .i64 c] := by
      intro i a b c hi _ hds
      obtain ⟨ds, hd'⟩ : ∃ ds, (Rows.laid_abugida_letters_classes : DataW Unit) = .agg ds := ⟨_, rfl⟩
      have hd2 := hd
      rw [hd'] at hd2
      obtain ⟨f', d, q, hdi, he⟩ := array_elem Tryz.underlying132 hd2 i hi
      rw [hds ds hd'] at hdi
      obtain rfl := Option.some.inj hdi
      rw [c3] at he
      exact span_cells he
    have hl : cs.toList.length = 36 := by
      have c36 : Tryz.prog.cellsOf 132 = 36 := by kernel_rfl
      cases fuel with
      | zero => simp [DataW.trod] at hd
      | succ fuel =>
        have hd3 := hd
        simp only [DataW.trod, Tryz.underlying132] at hd3
        split at hd3
        · rename_i hx; rw [c36] at hx; exact hx
        · cases hd3
    have L : ∀ ds, (Rows.laid_abugida_letters_classes : DataW Unit) = .agg ds → ∀ i d, aggAt (Rows.laid_abugida_letters_classes : DataW Unit) i = some d → ds[i]? = some d := by
      intro ds h i d hm; rw [h] at hm; exact hm
    have k0 := drop_step (key 0 97 122 1 (by decide) rfl (fun ds h => L ds h 0 _ rfl))
    have k1 := drop_step (key 1 181 181 1 (by decide) rfl (fun ds h => L ds h 1 _ rfl))
    have k2 := drop_step (key 2 223 246 1 (by decide) rfl (fun ds h => L ds h 2 _ rfl))
    have k3 := drop_step (key 3 248 255 1 (by decide) rfl (fun ds h => L ds h 3 _ rfl))
    have k4 := drop_step (key 4 65 90 2 (by decide) rfl (fun ds h => L ds h 4 _ rfl))
    have k5 := drop_step (key 5 192 214 2 (by decide) rfl (fun ds h => L ds h 5 _ rfl))
    have k6 := drop_step (key 6 216 222 2 (by decide) rfl (fun ds h => L ds h 6 _ rfl))
    have k7 := drop_step (key 7 48 57 3 (by decide) rfl (fun ds h => L ds h 7 _ rfl))
    have k8 := drop_step (key 8 9 13 4 (by decide) rfl (fun ds h => L ds h 8 _ rfl))
    have k9 := drop_step (key 9 32 32 4 (by decide) rfl (fun ds h => L ds h 9 _ rfl))
    have k10 := drop_step (key 10 160 160 4 (by decide) rfl (fun ds h => L ds h 10 _ rfl))
    have k11 := drop_step (key 11 33 126 5 (by decide) rfl (fun ds h => L ds h 11 _ rfl))
    have k12 : cs.toList.drop 36 = [] := List.drop_eq_nil_of_le (Nat.le_of_eq hl)
    simp only [Nat.reduceMul, Nat.reduceAdd] at k0 k1 k2 k3 k4 k5 k6 k7 k8 k9 k10 k11
    have e : cs.toList = spanCells.toList := by
      have e0 : cs.toList = cs.toList.drop 0 := rfl
      rw [e0, k0, k1, k2, k3, k4, k5, k6, k7, k8, k9, k10, k11, k12]; rfl
    have e' : cs = spanCells := Array.toList_inj.1 e
    rw [e']
  · obtain ⟨g, t, cs, fuel, p, hg, hty, hvar, hd⟩ := h3
    obtain rfl := Option.some.inj ((show Tryz.prog.globalNamed "strconv.ErrSyntax" = some 1 by kernel_rfl).symm.trans hg)
    obtain rfl := Option.some.inj ((show (Tryz.prog.globals[1]?).map (·.type) = some 71 by kernel_rfl).symm.trans hty)
    obtain ⟨f', u, v, hcs, _, _⟩ := iface_of_trod (name := "*errors.errorString") Tryz.underlying71 hd
    refine ⟨u, v, ?_⟩
    rw [World.var?_cell hg hvar 0, ← Array.getElem?_toList, hcs]; rfl

/-- a named variable's block is there -/
theorem VarReads.lt {P : Program} {w : World} {n : String} {d : DataW Unit} {g : Nat} (h : VarReads P w n d) (hg : P.globalNamed n = some g) : g < w.heap.size := by
  obtain ⟨g', t, cs, fuel, p, hg', hty, hvar, hd⟩ := h
  obtain rfl := Option.some.inj (hg.symm.trans hg')
  rcases Nat.lt_or_ge g w.heap.size with h' | h'
  · exact h'
  · unfold World.var? at hvar
    rw [hg', Option.bind_some, Array.getElem?_eq_none h'] at hvar
    cases hvar

theorem pow10_is : (Rows.laid_internal_strconv_uint64pow10 : DataW Unit) = tabData .u64 pow10Tab := by kernel_rfl
theorem tabs_of_laid {w : World} (h : laidMetH Tryz.prog Rows.readingsParseRow.laid w) (hsh : w.ShapedOpen Tryz.prog) : TabH w := by
  rw [MakeChecks.laidMetH_plain _ _ _ (by kernel_rfl)] at h
  have m : ∀ n (d : DataW Unit), (n, d) ∈ (Rows.readingsParseRow.laid : List (String × DataW Unit)) → VarReads Tryz.prog w n d := fun n d hm => laidMet.reads h hm
  have r1 := m "unicode/utf8.first" Pinned.utf8First (by simp [Rows.readingsParseRow, Rows.laid_unicode_utf8_first])
  have r2 := m "unicode/utf8.acceptRanges" Rows.laid_unicode_utf8_acceptRanges (by simp [Rows.readingsParseRow])
  rw [utf8First_is] at r1
  rw [accept_is] at r2
  have hT := tabs_of_reads r1 r2 (m _ _ (by simp [Rows.readingsParseRow])) (m _ _ (by simp [Rows.readingsParseRow]))
    (VarReads.lt (m "math/bits.deBruijn64tab" Rows.laid_math_bits_deBruijn64tab (by simp [Rows.readingsParseRow])) (show Tryz.prog.globalNamed "math/bits.deBruijn64tab" = some 8 by kernel_rfl))
  refine ⟨hT, ?_, ?_, ?_⟩
  · obtain ⟨g, t, cs, fuel, p, hg, hty, hvar, hd⟩ := m "strconv.ErrRange" Rows.laid_strconv_ErrRange (by simp [Rows.readingsParseRow])
    obtain rfl := Option.some.inj ((show Tryz.prog.globalNamed "strconv.ErrRange" = some 2 by kernel_rfl).symm.trans hg)
    obtain rfl := Option.some.inj ((show (Tryz.prog.globals[2]?).map (·.type) = some 71 by kernel_rfl).symm.trans hty)
    obtain ⟨f', u, v, hcs, _, _⟩ := iface_of_trod (name := "*errors.errorString") Tryz.underlying71 hd
    refine ⟨u, v, ?_⟩
    rw [World.var?_cell hg hvar 0, ← Array.getElem?_toList, hcs]; rfl
  · exact Go.Proofs.cell_of_shapedOpen_int (zero := #[.int .i64 0]) (t := 3) hsh (of_decide_eq_true (by kernel_rfl)) (by kernel_rfl) rfl (by kernel_rfl) (by kernel_rfl) Tryz.underlying3
  · have r := m "internal/strconv.uint64pow10" Rows.laid_internal_strconv_uint64pow10 (by simp [Rows.readingsParseRow])
    rw [pow10_is] at r
    obtain ⟨g, t, cs, fuel, p, hg, hty, hvar, hd⟩ := r
    obtain rfl := Option.some.inj ((show Tryz.prog.globalNamed "internal/strconv.uint64pow10" = some 6 by kernel_rfl).symm.trans hg)
    obtain rfl := Option.some.inj ((show (Tryz.prog.globals[6]?).map (·.type) = some 170 by kernel_rfl).symm.trans hty)
    unfold Lib.TabIs
    rw [hvar, ← cells_of_tab Tryz.underlying170 Tryz.underlying138 (by kernel_rfl) (by kernel_rfl) hd]

/-- The wrap with a list and with the world's shape. -/
theorem handed_shaped {H : Type} {enc : TypeId × Value → H} {a : Assume} {C : Checked} {os : Os} {f : FuncId} {fn : Func} {s : ChangeSpec} {conds : List PathCond} {apart fresh handsOn again : Bool} {X : World → Array Value → Prop}
    (hX : ∀ (w w' : World) (args : Array Value), w.heap = w'.heap → X w args → X w' args)
    (own : ownKnob C.prog.godebug = none) (started : os.Started) (noInit : C.prog.inits.idxOf? f = none) (hfn : C.prog.funcs[f]? = some fn)
    (witness : ∃ (w : World) (tape : Tape) (i : Input), w.os = os ∧ (w.forCall tape i).Shaped C.prog ∧ i.vars = [] ∧ Input.okWide C.prog (w.forCall tape i) .any w.heap.size f i ∧
      ((s.pre enc C.prog fn conds apart (w.forCall tape i).memory i.args ∧ X (w.forCall tape i).memory i.args) ∧ sizedMet enc C.prog fn (OpenSpec.ofChange s) apart (w.forCall tape i).memory i.args) ∧ a.holds C.prog (lone (Frame.enter C.prog f i.args .normal) [] (w.forCall tape i)))
    (contract : ∀ (W : World) (base : Nat) (args : Array Value) (ds gs : List (DataW H)) (before : List MemPlace),
      (∀ (j : Nat) t v, fn.params[j]? = some t → args[j]? = some v → Value.okWide C.prog W .any base t v) →
      DataW.Whole enc C.prog fn.params.toList s.vars apart W args.toList ds gs before → X W args → W.ShapedOpen C.prog →
      Calls C.prog f args W fun e W' => ∃ v, e = .returned v ∧ s.post enc C.prog fn apart fresh handsOn again W args v W') :
    ReturnsInHanded a C os f .any (fun w args => (s.pre enc C.prog fn conds apart w args ∧ X w args) ∧ sizedMet enc C.prog fn (OpenSpec.ofChange s) apart w args) (s.post enc C.prog fn apart fresh handsOn again) := by
  refine returnsInHanded_of_calls own started noInit witness (fun w tape i _ hsh _ hok hpre _ => ?_)
  obtain ⟨_, _, _, g, hg, _, _, _, _, hval⟩ := hok
  obtain rfl : g = fn := Option.some.inj (hg.symm.trans hfn)
  obtain ⟨⟨⟨ds, gs, before, hw, _⟩, hx⟩, _⟩ := hpre
  refine (contract (w.forCall tape i) w.heap.size i.args ds gs before hval (DataW.Whole.of_heap (by rfl) hw) (hX _ _ _ (by rfl) hx) hsh).mono ?_
  rintro e W' ⟨v, rfl, hp⟩
  exact ChangeSpec.post_blind hp
end Go.Proofs.YtplipnchkkhdaaaGreatDoor
