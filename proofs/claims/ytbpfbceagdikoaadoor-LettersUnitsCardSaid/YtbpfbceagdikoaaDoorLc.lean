/- LettersChanges: the law's walk. -/
import Derived.Test.YtbpfbceagdikoaaDoorAw
import Derived.Test.YtbpfbceagdikoaaDoorW8
import Derived.Deep.RegionHeld3
namespace Go.Proofs.YtbpfbceagdikoaaDoor
open Go.RowKit
set_option linter.unusedVariables false

/-- what stands behind each call of a region that draws -/
theorem keep3 {w0 w1 wr : World} {a : Addr} {t : Value} (hb : Below w0.heap.size w0 w1) (h : w0.cell? a = some t ∧ Tabs w0 ∧ Below wr.heap.size wr w0) : w1.cell? a = some t ∧ Tabs w1 ∧ Below wr.heap.size wr w1 :=
  ⟨(hb.cell (cell_lt h.1)).trans h.1, h.2.1.below hb, bstep h.2.2 hb⟩
theorem keep3D {wr : World} {a : Addr} {t : Value} (h : wr.cell? a = some t) (hT : Tabs wr) : wr.drew.cell? a = some t ∧ Tabs wr.drew ∧ Below wr.heap.size wr wr.drew :=
  ⟨h, hT.below (Below.refl _ _).drew, (Below.refl _ _).drew⟩
theorem keep3T {w0 wr : World} {a : Addr} {t : Value} (h : w0.cell? a = some t ∧ Tabs w0 ∧ Below wr.heap.size wr w0) : Tabs w0 := h.2.1

theorem keep3B {w0 wr : World} {a : Addr} {t : Value} (h : w0.cell? a = some t ∧ Tabs w0 ∧ Below wr.heap.size wr w0) : Below wr.heap.size wr w0 := h.2.2
theorem mem_len {l : List Bs} {p : Bs} (h : p ∈ l) : p.length ≤ l.flatten.length := by
  induction l with
  | nil => cases h
  | cons a r ih =>
    rw [List.flatten_cons, List.length_append]
    rcases List.mem_cons.1 h with rfl | h
    · omega
    · have := ih h; omega
theorem piece_le {s : Bs} {p : Bs} (h : p ∈ pieces s) : p.length ≤ s.length := by
  have := mem_len h
  rwa [pieces_flat] at this

set_option maxHeartbeats 4000000 in
set_option maxRecDepth 100000 in
theorem changes_law (s : ByteArray) (w : World) (hT : Tabs w) :
    Calls Tryd.prog 5 #[.string s] w fun e w' => e = .returned (.bool true) ∧ Below w.heap.size w w' := by
  have hA : Below w.heap.size w w := Below.refl _ _
  rcases Nat.lt_or_ge 2000 s.size with hs | hs
  · go_enter Tryd.func5, Tryd.ntmps5
    go_wp2_with fail
    all_goals first
      | (go_at_call 17; refine (awake_any _ hT).mono ?_; rintro e w1 ⟨rfl, hb1⟩; go_wp2_with fail; go_returns; exact ⟨rfl, hb1⟩)
      | (exfalso; go_light; omega)
  · have hpc := pieces_any s w (by omega)
    have hpl := pieces_len s.data.toList
    rw [← Lib.size_eq] at hpl
    have hpm : ∀ p ∈ pieces s.data.toList, p.length ≤ 2000 := fun p hp => by
      have := piece_le hp
      rw [← Lib.size_eq] at this
      omega
    have k1 := fun W hW => class_any s W hW
    have k2 := fun W => rclass_any s W (by omega)
    have k3 := fun W hW => change_Lower s W hW (by omega)
    have k4 := fun W => rLower_any s W (by omega)
    have k5 := fun W hW => change_Upper s W hW (by omega)
    have k6 := fun W => rUpper_any s W (by omega)
    generalize pieces s.data.toList = l at hpc hpl hpm
    generalize classL s.data.toList = cl at k1 k2
    generalize (⟨(changeL lowR s.data.toList).toArray⟩ : ByteArray) = lo at k3 k4
    generalize (⟨(changeL upR s.data.toList).toArray⟩ : ByteArray) = up at k5 k6
    have hpl2 : l.length ≤ 2000 := by omega
    go_enter Tryd.func5, Tryd.ntmps5
    go_wp2_with (first | (go_at_call 22; refine hpc.mono ?_; rintro e w1 ⟨A, cap, rfl, hcap, hrow, hb1⟩))
    go_loopw [4] (fun i wr => ∃ (k : Nat), i = .int .i64 k ∧ k ≤ l.length ∧ Below w.heap.size w wr ∧ RowAt wr A (l.map S)) (fun i _ => l.length - (intOf i).toNat)
    case atStart => exact ⟨0, rfl, by omega, hb1, hrow⟩
    case round =>
      obtain ⟨k, rfl, hk, hbr, hrr⟩ := hrel
      by_cases hlt : k < l.length
      · obtain ⟨b, o, rfl, hbl, hcell⟩ := hrr (by intro e; rw [List.map_eq_nil_iff] at e; rw [e] at hlt; simp at hlt)
        have hp : l[k].length ≤ 2000 := hpm _ (List.getElem_mem hlt)
        obtain ⟨t, ht⟩ : ∃ t : ByteArray, (⟨l[k].toArray⟩ : ByteArray) = t := ⟨_, rfl⟩
        have hts : t.size ≤ 2000 := by rw [← ht, Lib.size_eq]; exact hp
        have hc : wr.cell? ⟨b, o + k, none⟩ = some (.string t) := by rw [← ht]; exact hcell k _ (getS hlt)
        have c1 := fun W hW => class_any t W hW
        have c2 := fun W => rclass_any t W (by omega)
        have c3 := fun W hW => valid_any t W hW
        have c4 := fun W => rvalid_any t W (by omega)
        generalize classL t.data.toList = tc at c1 c2
        generalize validL t.data.toList = tv at c3 c4
        clear ht hp hpm k1 k2 k3 k4 k5 k6 hcell
        have hTr := hT.below hbr
        have hk0 : (0 : Int) ≤ (k : Int) := by omega
        have hk1 : (k : Int) < (l.length : Int) := by omega
        go_wp2_with fail
        go_region_held3 (fun w' => w'.cell? ⟨b, o + k, none⟩ = some (.string t) ∧ Tabs w' ∧ Below wr.heap.size wr w')
          (first | assumption | exact keep3 (by assumption) (by assumption) | exact keep3D hc hTr)
          (first
            | (go_at_call 13; refine (c1 _ (keep3T (by assumption))).mono ?_; rintro e wx ⟨rfl, hbx⟩)
            | (go_at_call 23; refine (c2 _).mono ?_; rintro e wx ⟨rfl, rfl⟩)
            | (go_at_call 20; refine (c3 _ (keep3T (by assumption))).mono ?_; rintro e wx ⟨rfl, hbx⟩)
            | (go_at_call 21; refine (c4 _).mono ?_; rintro e wx ⟨rfl, rfl⟩))
        all_goals go_wp2_with fail
        all_goals go_round
        all_goals first
          | (case rel => exact ⟨k + 1, by go_num, by omega, bstep hbr (keep3B (by assumption)), hrr.below (keep3B (by assumption))⟩)
          | (case measure => simp [intOf]; omega)
      · obtain rfl : k = l.length := by omega
        have hlo : (lo.toList == lo.toList) = true := beq_self_eq_true _
        have hup : (up.toList == up.toList) = true := beq_self_eq_true _
        clear hpm hrr hrow hpl hpl2
        have hA1 := hbr
        go_wp2_with (first
          | (go_at_call 13; refine (k1 _ (hT.below hA1)).mono ?_; rintro e w2 ⟨rfl, hb2⟩; have hA2 := bstep hA1 hb2)
          | (go_at_call 23; refine (k2 _).mono ?_; rintro e w3 ⟨rfl, rfl⟩)
          | (go_at_call 24; refine (k3 _ (hT.below hA2)).mono ?_; rintro e w4 ⟨rfl, hb4⟩; have hA4 := bstep hA2 hb4)
          | (go_at_call 25; refine (k4 _).mono ?_; rintro e w5 ⟨rfl, hb5⟩; have hA5 := bstep hA4 hb5)
          | (go_at_call 26; refine (k5 _ (hT.below hA5)).mono ?_; rintro e w6 ⟨rfl, hb6⟩; have hA6 := bstep hA5 hb6)
          | (go_at_call 27; refine (k6 _).mono ?_; rintro e w7 ⟨rfl, hb7⟩; have hA7 := bstep hA6 hb7)
          | (go_at_call 17; refine (awake_any _ (hT.below hA7)).mono ?_; rintro e w8 ⟨rfl, hb8⟩; have hA8 := bstep hA7 hb8))
        all_goals go_returns
        all_goals exact ⟨rfl, hA8⟩
end Go.Proofs.YtbpfbceagdikoaaDoor
