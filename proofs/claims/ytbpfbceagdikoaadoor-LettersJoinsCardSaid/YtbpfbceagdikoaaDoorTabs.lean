/- From the row's list to what the walks ask of the package-level variables. -/
import Derived.Test.YtbpfbceagdikoaaDoorCards
import Derived.Test.YtbpfbceagdikoaaDoorWords
import Derived.Lib.LaidU8
import Derived.LaidLaws
import Derived.LaidMore
import Derived.Deep.Strs
import Derived.ProofKit
import Derived.OpenShut
namespace Go.Proofs.YtbpfbceagdikoaaDoor
open Go.RowKit Go.ChangeShapes Go.Lib
set_option linter.unusedVariables false
set_option maxRecDepth 100000

theorem utf8First_is : Pinned.utf8First = firstData := by kernel_rfl
theorem accept_is : (Rows.laid_unicode_utf8_acceptRanges : DataW Unit) = acceptData := by kernel_rfl

theorem drop_step {cs x : List Value} {a n : Nat} (h : (cs.drop a).take n = x) : cs.drop a = x ++ cs.drop (a + n) := by
  rw [← h, ← List.drop_drop]; exact (List.take_append_drop n _).symm

/-- one span of the table: three numbers -/
theorem span_cells {w : World} {fuel : Nat} {cs : List Value} {a b c : Int} {p : List MemPlace}
    (h : DataW.trod (fun _ => ()) Tryd.prog w 0 (fun _ => true) false fuel 67 cs = some (.agg [.lit (.int .i32 a), .lit (.int .i32 b), .lit (.int .i64 c)], p)) : cs = [.int .i32 a, .int .i32 b, .int .i64 c] := by
  obtain ⟨y0, y1, y2, n, hx, hl, h0, h1, h2⟩ := Deep.trod_struct3 Tryd.underlying67 h
  have c1 : Tryd.prog.cellsOf 67 = 3 := by kernel_rfl
  have c2 : Tryd.prog.cellsOf 21 = 1 := by kernel_rfl
  have c3 : Tryd.prog.cellsOf 3 = 1 := by kernel_rfl
  obtain ⟨z0, e0, x0, _⟩ := DataW.trod_int Tryd.underlying21 h0
  obtain ⟨z1, e1, x1, _⟩ := DataW.trod_int Tryd.underlying21 h1
  obtain ⟨z2, e2, x2, _⟩ := DataW.trod_int Tryd.underlying3 h2
  have hx1 := (Prod.mk.inj hx).1
  rw [x0, x1, x2] at hx1
  simp only [DataW.agg.injEq, List.cons.injEq, DataW.lit.injEq, Lit.int.injEq, true_and, and_true] at hx1
  obtain ⟨rfl, rfl, rfl⟩ := hx1
  rw [c2] at e0 e1
  rw [c3] at e2
  rw [c1] at hl
  obtain ⟨u0, u1, u2, rfl⟩ : ∃ u0 u1 u2, cs = [u0, u1, u2] := by
    match cs, hl with
    | [u0, u1, u2], _ => exact ⟨u0, u1, u2, rfl⟩
  simp only [List.drop_succ_cons, List.drop_zero, List.take_succ_cons, List.take_zero, List.cons.injEq, and_true] at e0 e1 e2
  rw [e0, e1, e2]

def aggAt (d : DataW Unit) (i : Nat) : Option (DataW Unit) := match d with | .agg l => l[i]? | _ => none

theorem tabs_of_reads {w : World} (h1 : VarReads Tryd.prog w "unicode/utf8.first" firstData) (h2 : VarReads Tryd.prog w "unicode/utf8.acceptRanges" acceptData)
    (h3 : VarReads Tryd.prog w "strconv.ErrSyntax" Rows.laid_strconv_ErrSyntax) (h4 : VarReads Tryd.prog w "abugida/letters.classes" Rows.laid_abugida_letters_classes)
    (hlt : 9 ≤ w.heap.size) : Tabs w := by
  refine ⟨?_, ?_, ?_, hlt⟩
  · exact utf8Tabs_of_reads (ρ := Tryd.lays197_ren) { Tryd.lays197 with } ⟨by kernel_rfl, by kernel_rfl, by kernel_rfl, by kernel_rfl, by kernel_rfl, by kernel_rfl, by kernel_rfl⟩ h1 h2
  · obtain ⟨g, t, cs, fuel, p, hg, hty, hvar, hd⟩ := h4
    obtain rfl := Option.some.inj ((show Tryd.prog.globalNamed "abugida/letters.classes" = some 0 by kernel_rfl).symm.trans hg)
    obtain rfl := Option.some.inj ((show (Tryd.prog.globals[0]?).map (·.type) = some 68 by kernel_rfl).symm.trans hty)
    have hh : ∃ t fr, w.heap[0]? = some (.cells cs t fr) := by
      unfold World.var? at hvar
      rw [hg, Option.bind_some] at hvar
      cases hz : w.heap[0]? with
      | none => rw [hz] at hvar; cases hvar
      | some o =>
        rw [hz] at hvar
        cases o with
        | cells c t fr => cases hvar; exact ⟨t, fr, rfl⟩
        | _ => cases hvar
    obtain ⟨tt, fr, hh⟩ := hh
    refine ⟨tt, fr, hh.trans ?_⟩
    have c3 : Tryd.prog.cellsOf 67 = 3 := by kernel_rfl
    have key : ∀ i a b c, i < 12 → (Rows.laid_abugida_letters_classes : DataW Unit) = Rows.laid_abugida_letters_classes →
        (∀ ds, (Rows.laid_abugida_letters_classes : DataW Unit) = .agg ds → ds[i]? = some (.agg [.lit (.int .i32 a), .lit (.int .i32 b), .lit (.int .i64 c)])) →
        (cs.toList.drop (i * 3)).take 3 = [.int .i32 a, .int .i32 b, .int .i64 c] := by
      intro i a b c hi _ hds
      obtain ⟨ds, hd'⟩ : ∃ ds, (Rows.laid_abugida_letters_classes : DataW Unit) = .agg ds := ⟨_, rfl⟩
      have hd2 := hd
      rw [hd'] at hd2
      obtain ⟨f', d, q, hdi, he⟩ := array_elem Tryd.underlying68 hd2 i hi
      rw [hds ds hd'] at hdi
      obtain rfl := Option.some.inj hdi
      rw [c3] at he
      exact span_cells he
    have hl : cs.toList.length = 36 := by
      have c36 : Tryd.prog.cellsOf 68 = 36 := by kernel_rfl
      cases fuel with
      | zero => simp [DataW.trod] at hd
      | succ fuel =>
        have hd3 := hd
        simp only [DataW.trod, Tryd.underlying68] at hd3
        split at hd3
        · rename_i hx; rw [c36] at hx; exact hx
        · cases hd3
    have L : ∀ ds, (Rows.laid_abugida_letters_classes : DataW Unit) = .agg ds → ∀ i d, aggAt (Rows.laid_abugida_letters_classes : DataW Unit) i = some d → ds[i]? = some d := by
      intro ds h i d hm; rw [h] at hm; exact hm
    have k0 := drop_step (key 0 97 122 1 (by decide) rfl (fun ds h => L ds h 0 _ rfl))
    have k1 := drop_step (key 1 181 181 1 (by decide) rfl (fun ds h => L ds h 1 _ rfl))
    have k2 := drop_step (key 2 223 246 1 (by decide) rfl (fun ds h => L ds h 2 _ rfl))
    have k3 := drop_step (key 3 248 255 1 (by decide) rfl (fun ds h => L ds h 3 _ rfl))
    have k4 := drop_step (key 4 65 90 2 (by decide) rfl (fun ds h => L ds h 4 _ rfl))
    have k5 := drop_step (key 5 192 214 2 (by decide) rfl (fun ds h => L ds h 5 _ rfl))
    have k6 := drop_step (key 6 216 222 2 (by decide) rfl (fun ds h => L ds h 6 _ rfl))
    have k7 := drop_step (key 7 48 57 3 (by decide) rfl (fun ds h => L ds h 7 _ rfl))
    have k8 := drop_step (key 8 9 13 4 (by decide) rfl (fun ds h => L ds h 8 _ rfl))
    have k9 := drop_step (key 9 32 32 4 (by decide) rfl (fun ds h => L ds h 9 _ rfl))
    have k10 := drop_step (key 10 160 160 4 (by decide) rfl (fun ds h => L ds h 10 _ rfl))
    have k11 := drop_step (key 11 33 126 5 (by decide) rfl (fun ds h => L ds h 11 _ rfl))
    have k12 : cs.toList.drop 36 = [] := List.drop_eq_nil_of_le (Nat.le_of_eq hl)
    simp only [Nat.reduceMul, Nat.reduceAdd] at k0 k1 k2 k3 k4 k5 k6 k7 k8 k9 k10 k11
    have e : cs.toList = spanCells.toList := by
      have e0 : cs.toList = cs.toList.drop 0 := rfl
      rw [e0, k0, k1, k2, k3, k4, k5, k6, k7, k8, k9, k10, k11, k12]; rfl
    have e' : cs = spanCells := Array.toList_inj.1 e
    rw [e']
  · obtain ⟨g, t, cs, fuel, p, hg, hty, hvar, hd⟩ := h3
    obtain rfl := Option.some.inj ((show Tryd.prog.globalNamed "strconv.ErrSyntax" = some 4 by kernel_rfl).symm.trans hg)
    obtain rfl := Option.some.inj ((show (Tryd.prog.globals[4]?).map (·.type) = some 49 by kernel_rfl).symm.trans hty)
    obtain ⟨f', u, v, hcs, _, _⟩ := iface_of_trod (name := "*errors.errorString") Tryd.underlying49 hd
    refine ⟨u, v, ?_⟩
    rw [World.var?_cell hg hvar 0, ← Array.getElem?_toList, hcs]; rfl

/-- a named variable's block is there -/
theorem VarReads.lt {P : Program} {w : World} {n : String} {d : DataW Unit} {g : Nat} (h : VarReads P w n d) (hg : P.globalNamed n = some g) : g < w.heap.size := by
  obtain ⟨g', t, cs, fuel, p, hg', hty, hvar, hd⟩ := h
  obtain rfl := Option.some.inj (hg.symm.trans hg')
  rcases Nat.lt_or_ge g w.heap.size with h' | h'
  · exact h'
  · unfold World.var? at hvar
    rw [hg', Option.bind_some, Array.getElem?_eq_none h'] at hvar
    cases hvar

theorem tabs_of_laid {w : World} (h : laidMetH Tryd.prog Rows.lettersSplitsRow.laid w) : Tabs w := by
  rw [MakeChecks.laidMetH_plain _ _ _ (by kernel_rfl)] at h
  have m : ∀ n (d : DataW Unit), (n, d) ∈ (Rows.lettersSplitsRow.laid : List (String × DataW Unit)) → VarReads Tryd.prog w n d := fun n d hm => laidMet.reads h hm
  have r1 := m "unicode/utf8.first" Pinned.utf8First (by simp [Rows.lettersSplitsRow, Rows.laid_unicode_utf8_first])
  have r2 := m "unicode/utf8.acceptRanges" Rows.laid_unicode_utf8_acceptRanges (by simp [Rows.lettersSplitsRow])
  rw [utf8First_is] at r1
  rw [accept_is] at r2
  exact tabs_of_reads r1 r2 (m _ _ (by simp [Rows.lettersSplitsRow])) (m _ _ (by simp [Rows.lettersSplitsRow]))
    (VarReads.lt (m "math/bits.deBruijn64tab" Rows.laid_math_bits_deBruijn64tab (by simp [Rows.lettersSplitsRow])) (show Tryd.prog.globalNamed "math/bits.deBruijn64tab" = some 8 by kernel_rfl))
end Go.Proofs.YtbpfbceagdikoaaDoor
