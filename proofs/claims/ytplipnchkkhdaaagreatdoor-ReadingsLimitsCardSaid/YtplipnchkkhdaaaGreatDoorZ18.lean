/- The statement ReadingsLimits: its walk. -/
import Derived.Test.YtplipnchkkhdaaaGreatDoorZ13
namespace Go.Proofs.YtplipnchkkhdaaaGreatDoor
open Go.RowKit
set_option linter.unusedVariables false

/-- readings, and cohorts, in a row of their own -/
abbrev RdLst := RowL (α := List Bs) 50 1 (fun _ xs => xs.map (·.1)) (fun w p a => StrsV w p.1 a)
abbrev CoLst := RowL (α := Coh) 29 2 (fun l xs => cohCells l (xs.map (·.1))) (fun w p c => ReadsV w p.1 c.reads)
theorem allP_map {R : World → Value → List Bs → Prop} {w : World} : ∀ {xs : List (Value × Value)} {l : List (List Bs)}, AllP (fun p a => R w p.1 a) xs l → AllV (R w) (xs.map (·.1)) l
  | [], [], _ => trivial
  | x :: xs, a :: l, h => ⟨h.1, allP_map h.2⟩
  | [], a :: l, h => h.elim
  | x :: xs, [], h => h.elim
theorem allP_mapC {R : World → Value → Coh → Prop} {w : World} : ∀ {xs : List (Value × Value)} {l : List Coh}, AllP (fun p a => R w p.1 a) xs l → AllV (R w) (xs.map (·.1)) l
  | [], [], _ => trivial
  | x :: xs, a :: l, h => ⟨h.1, allP_mapC h.2⟩
  | [], a :: l, h => h.elim
  | x :: xs, [], h => h.elim
theorem RdLst.reads {n1 : Nat} {w : World} {x : Value} {l : List (List Bs)} (h : RdLst n1 w x l) : ReadsV w x l := by
  obtain ⟨xs, h1, h2, h3⟩ := h
  exact ⟨xs.map (·.1), own_sl h2, allP_map (R := StrsV) h3.now⟩
theorem CoLst.cohs {n1 : Nat} {w : World} {x : Value} {l : List Coh} (h : CoLst n1 w x l) : CohsV w x l := by
  obtain ⟨xs, h1, h2, h3⟩ := h
  exact ⟨xs.map (·.1), own_sl h2, allP_mapC (R := fun w x (c : Coh) => ReadsV w x c.reads) h3.now⟩
theorem rep_snoc {α : Type} (m : Nat) (a : α) : List.replicate (m + 1) a = List.replicate m a ++ [a] := List.replicate_succ'
theorem limT_snoc (k : Nat) : limT (k + 1) = limT k ++ [9, 78, 10] := by unfold limT; rw [rep_snoc]; simp
theorem limU_snoc (k : Nat) : limU (k + 1) = limU k ++ [83, 69, 76, 69, 67, 84, 32, 78, 10] := by unfold limU; rw [rep_snoc]; simp
theorem limT_len (k : Nat) : (limT k).length = 2 + 3 * k := by
  induction k with
  | zero => rfl
  | succ k ih => rw [limT_snoc, List.length_append, ih]; simp; omega
theorem limU_len (k : Nat) : (limU k).length = 9 * k := by
  induction k with
  | zero => rfl
  | succ k ih => rw [limU_snoc, List.length_append, ih]; simp; omega
theorem limC_len (k : Nat) : (limC k).length = k := by unfold limC; simp
theorem limX_len (k : Nat) : (limX k).length = k := by unfold limX; simp
theorem sized_limC (k : Nat) (h : k ≤ 1000) : Sized (limC k) := by
  refine ⟨by rw [limC_len]; omega, fun c hc => ?_⟩
  unfold limC at hc
  rw [List.eq_of_mem_replicate hc]
  exact ⟨by simp, by simp⟩
theorem sized_limR (k : Nat) (h : k ≤ 1000) : Sized (limR k) := by
  refine ⟨by unfold limR; simp, fun c hc => ?_⟩
  unfold limR at hc
  simp only [List.mem_singleton] at hc
  subst hc
  refine ⟨by simp; omega, fun r hr => ?_⟩
  rw [List.eq_of_mem_replicate hr]; simp
theorem sized_limX (k : Nat) (h : k ≤ 1000) : SizedRs (limX k) := by
  refine ⟨by rw [limX_len]; omega, fun c hc => ?_⟩
  unfold limX at hc
  rw [List.eq_of_mem_replicate hc]
  exact ⟨by simp, by simp, by simp⟩
theorem limC_snoc (k : Nat) : limC (k + 1) = limC k ++ [⟨[97], []⟩] := rep_snoc k _
theorem limX_snoc (k : Nat) : limX (k + 1) = limX k ++ [⟨1, [[78]], [], false⟩] := rep_snoc k _
theorem dec_nat {a b : Nat} {c : Bool} (h : decide (a = b) = c) : (((a : Nat) : Int) == ((b : Nat) : Int)) = c := by
  rw [← h, Bool.eq_iff_iff, beq_iff_eq, decide_eq_true_iff]; omega
set_option maxHeartbeats 4000000 in
set_option maxRecDepth 100000 in
theorem cohort_nil (F : ByteArray) (w : World) :
    Calls Tryz.prog 12 #[.string F, .slice none 0 0] w fun e w' => e = .returned (.agg #[.string F, .slice none 0 0]) ∧ Below w.heap.size w w' := by
  obtain ⟨W0, hW0⟩ : ∃ W0, W0 = (w.alloc (.cells #[.string ⟨#[]⟩, .slice none 0 0] 29)).alloc (.cells #[.string F, .slice none 0 0] 29) := ⟨_, rfl⟩
  have b0 : Below w.heap.size w W0 := by rw [hW0]; exact ((Below.refl _ _).alloc (Nat.le_refl _) _).alloc (by simp) _
  have hr1 : W0.heap[w.heap.size]? = some (.cells #[.string ⟨#[]⟩, .slice none 0 0] 29 (0, 0)) := by
    rw [hW0]
    exact (((Below.refl _ _).alloc (Nat.le_refl _) _).block w.heap.size (by simp)).trans (heap_alloc_new w _)
  have hr2 : W0.heap[w.heap.size + 1]? = some (.cells #[.string F, .slice none 0 0] 29 (0, 0)) := by
    rw [hW0]
    have := heap_alloc_new (w.alloc (.cells #[.string ⟨#[]⟩, .slice none 0 0] 29)) (.cells #[.string F, .slice none 0 0] 29)
    simpa using this
  have HR1 := Lib.hid hr1
  have HR2 := Lib.hid hr2
  clear hr1 hr2
  go_enter Tryz.func12, Tryz.ntmps12
  go_wp2_with fail
  rw [← hW0]
  clear hW0
  go_loopw [6] (fun i wr => i = .int .i64 0 ∧ Below w.heap.size w wr ∧ Hid (wr.heap[w.heap.size]? = some (.cells #[.string ⟨#[]⟩, .slice none 0 0] 29 (0, 0))) ∧ Hid (wr.heap[w.heap.size + 1]? = some (.cells #[.string F, .slice none 0 0] 29 (0, 0)))) (fun _ _ => 0)
  case atStart => exact ⟨rfl, b0, HR1.out, HR2.out⟩
  case round =>
    obtain ⟨rfl, hB, H1, H2⟩ := hrel
    have k0 := cell_of_row wr (w.heap.size + 1) 0 _ _ (0, 0) H2.out
    have k1 := cell_of_row wr (w.heap.size + 1) 1 _ _ (0, 0) H2.out
    have j0 := cell_of_row wr w.heap.size 0 _ _ (0, 0) H1.out
    have j1 := cell_of_row wr w.heap.size 1 _ _ (0, 0) H1.out
    have f0 := fzB H1.out 0
    have f1 := fzB H1.out 1
    simp at k0 k1 j0 j1
    go_wp2_with fail
    refine bodyPost_ret (v := .agg #[.string F, .slice none 0 0]) (by simp [results, Tryz.results12, go_sem, j0, j1]; try rfl) rfl ?_
    exact ⟨rfl, (hB.setCell (p := ⟨w.heap.size, 0, none⟩) (Nat.le_refl _) _).setCell (p := ⟨w.heap.size, 1, none⟩) (Nat.le_refl _) _⟩
set_option maxHeartbeats 16000000 in
set_option maxRecDepth 100000 in
theorem limits_main (N K R : Nat) (w : World) (hT : TabH w) (hN1 : 195 ≤ N) (hN2 : N ≤ 205) (hK1 : 28 ≤ K) (hK2 : K ≤ 32) (hR1 : 98 ≤ R) (hR2 : R ≤ 102) :
    Calls Tryz.prog 9 #[.int .i64 (N : Int), .int .i64 (K : Int), .int .i64 (R : Int)] w fun e w' => e = .returned (.bool true) ∧ Below w.heap.size w w' := by
  have n1 : decide ((N : Int) < 195) = false := decide_eq_false (by omega)
  have n2 : decide ((205 : Int) < (N : Int)) = false := decide_eq_false (by omega)
  have n3 : decide ((K : Int) < 28) = false := decide_eq_false (by omega)
  have n4 : decide ((32 : Int) < (K : Int)) = false := decide_eq_false (by omega)
  have n5 : decide ((R : Int) < 98) = false := decide_eq_false (by omega)
  have n6 : decide ((102 : Int) < (R : Int)) = false := decide_eq_false (by omega)
  obtain ⟨ic, ci, cz0, cz1, cz2⟩ := info_parts cohInfo
  obtain ⟨ir, ri, rz0, rz1, rz2⟩ := info_parts reaInfo
  obtain ⟨iu, ui, uz0, uz1, uz2⟩ := info_parts rulInfo
  go_enter Tryz.func9, Tryz.ntmps9
  go_wp2_with fail
  clear n1 n2 n3 n4 n5 n6
  go_loopw [7, 8] (fun v i wr => ∃ (m : Nat), i = .int .i64 m ∧ m ≤ N ∧ Below w.heap.size w wr ∧ Hid (CoLst w.heap.size wr v (limC m))) (fun _ i _ => N - (intOf i).toNat)
  case atStart => exact ⟨0, rfl, by omega, Below.refl _ _, (RowL.nil _ _ rfl : CoLst w.heap.size w (.slice none 0 0) [])⟩
  case round =>
    obtain ⟨m, rfl, hm, hB, HC⟩ := hrel
    obtain ⟨Av, cv, rfl, hcv, _⟩ := RowL.form HC.out
    rw [limC_len] at *
    by_cases hlt : m < N
    · have k1 : decide (m < N) = true := decide_eq_true hlt
      go_wp2_with fail
      refine (cohort_nil _ _).mono ?_
      rintro e w1 ⟨rfl, b1⟩
      obtain ⟨xs, hx1, hx2, hx3⟩ := HC.out
      have bT : Below wr.heap.size wr (w1.alloc (.cells #[.string ⟨#[97]⟩, .slice none 0 0] 29)) := b1.alloc b1.size _
      have hown3 := own_chg hx2 (Chg.of_new (X := fun _ => False) bT) (fun _ _ e => e)
      rw [limC_len] at hown3
      have hnews := World.news_of_block (heap_alloc_new w1 (.cells #[.string ⟨#[97]⟩, .slice none 0 0] 29))
      have h63 : m + 1 ≤ maxLen := by unfold maxLen; omega
      have hby : (m + 1) * 40 ≤ 140737488355328 := by omega
      have hbase : w.heap.size ≤ (w1.alloc (.cells #[.string ⟨#[97]⟩, .slice none 0 0] 29)).heap.size := by have := bT.size; have := hB.size; omega
      have HX12 := Lib.hid (And.intro hx1 hx3)
      clear hx1 hx3 hx2
      go_wp2_with (at_builtin; refine wpList_append_lies _ rfl (.tmp 55) (.tmp 57) 22 rfl w.heap.size 29 ic _ 2 40 Tryz.underlying22 ci cz0 cz1 cz2 rfl (by decide) _ m _ rfl hown3 ⟨w1.heap.size, 0, none⟩ 1 1 [.string ⟨#[97]⟩, .slice none 0 0] rfl rfl hnews (by simp [Value.oneCell']) (by decide) h63 hby hbase (w1.heap.size + 1) (by simp) ?_; intro g2 cap w5 hown5 hgr5 hat5 hlt5)
      go_roundw
      case rel =>
        refine ⟨m + 1, by go_num, by omega, (hB.trans (bT.mono hB.size)).grown hgr5 hbase fun g hg => (hown3.lt g hg).1, ?_⟩
        have h := RowL.add (T := 29) (size := 2) (cells := fun (l : List Coh) (xs : List (Value × Value)) => cohCells l (xs.map (·.1))) (R := fun w p c => ReadsV w p.1 c.reads) (l := limC m) (a := ⟨[97], []⟩) (p := (.slice none 0 0, .slice none 0 0)) (cs := [.string ⟨#[97]⟩, .slice none 0 0]) (g := g2) (cap := cap) (w' := w5) HX12.out.1 (by rw [limC_len]; exact hown3) (HX12.out.2.step (Chg.of_new (X := fun _ => False) bT) (fun _ _ e => e.elim) (fun _ _ e => e)) (fun w' _ _ => ⟨[], Sl.nil _, trivial⟩) (by
          have hl : (xs.map (·.1)).length = (limC m).length := by rw [List.length_map]; exact HX12.out.1
          show cohCells (limC m ++ [⟨[97], []⟩]) ((xs ++ [((.slice none 0 0 : Value), (.slice none 0 0 : Value))]).map (·.1)) = _
          rw [List.map_append]
          exact cohCells_snoc _ _ _ _ hl) (by rw [limC_len]; exact hown5) hgr5 (hat5.imp id fun e => by rw [e]; simp)
        rw [limC_len, ← limC_snoc] at h
        exact h
      case measure => simp [intOf]; omega
    · obtain rfl : m = N := by omega
      have k1 : decide (m < m) = false := decide_eq_false (by omega)
      have p2 : Calls Tryz.prog 17 #[.slice Av m cv] wr fun e w' => e = .returned (.tuple #[.string ⟨(cohsText (limC m)).1.toArray⟩, .int .i64 ((cohsText (limC m)).2 : Int)]) ∧ Below wr.heap.size wr w' := by
        have hv := CoLst.cohs HC.out
        have h := text_any Av cv (limC m) wr (hT.below hB).t (by rw [limC_len]; exact hv) (sized_limC m (by omega))
        rw [limC_len] at h
        exact h
      have p3 : ∀ W, Below wr.heap.size wr W → Calls Tryz.prog 19 #[.slice Av m cv] W fun e w' => e = .returned (.bool (cohsOk (limC m))) ∧ Below W.heap.size W w' := fun W hW => by
        have hv := (CoLst.cohs HC.out).below hW
        have h := valid_any Av cv (limC m) W (hT.below (bstep hB hW)).t (by rw [limC_len]; exact hv) (sized_limC m (by omega))
        rw [limC_len] at h
        exact h
      obtain ⟨L1, L2, L3, L4⟩ := lim_cohs m (by omega) hN1
      generalize cohsText (limC m) = TE at *
      obtain ⟨T1, E1⟩ := TE
      obtain ⟨TB, hTB⟩ : ∃ TB : ByteArray, (⟨T1.toArray⟩ : ByteArray) = TB := ⟨_, rfl⟩
      have hTs : T1.length = TB.size := by rw [← hTB, Lib.size_eq]
      dsimp only at *
      rw [hTB] at p2
      rw [hTs] at L2 L4
      generalize cohsOk (limC m) = q at *
      obtain ⟨bN, hbN⟩ : ∃ b, decide (m ≤ 200) = b := ⟨_, rfl⟩
      rw [hbN] at L1 L2 L3
      have f1 : (((E1 : Nat) : Int) == 0) = bN := dec_nat L1
      have f2 : decide ((m : Int) ≤ 200) = bN := by rw [← hbN, Bool.eq_iff_iff, decide_eq_true_iff, decide_eq_true_iff]; omega
      have f3 : (((TB.size : Nat) : Int) == 2 * (m : Int)) = bN := by rw [← L2, Bool.eq_iff_iff, beq_iff_eq, decide_eq_true_iff]; omega
      subst L3
      clear hTB hTs hbN L1 L2 HC
      go_wp2_with fail
      refine p2.mono ?_
      rintro e w2 ⟨rfl, b2⟩
      have k2 := bstep hB b2
      have p4 := p3 w2 b2
      clear p2 p3
      go_wp2_with fail
      refine p4.mono ?_
      rintro e w3 ⟨rfl, b3⟩
      have k3 := bstep k2 b3
      clear p4
      go_wp2_with fail
      refine (cohort_nil _ _).mono ?_
      rintro e w4 ⟨rfl, b4⟩
      have k4 := bstep k3 b4
      go_wp2_with fail
      clear f1 f2 f3
      obtain ⟨w5, hw5⟩ : ∃ w5, w5 = w4.alloc (.cells #[.string ⟨#[97]⟩, .slice none 0 0] 29) := ⟨_, rfl⟩
      rw [← hw5]
      have k5 : Below w.heap.size w w5 := by rw [hw5]; exact k4.alloc k4.size _
      have hz5 : w5.heap.size = w4.heap.size + 1 := by rw [hw5]; simp
      have HB5 : Hid (w5.heap[w4.heap.size]? = some (.cells #[.string ⟨#[97]⟩, .slice none 0 0] 29 (0, 0))) := by rw [Hid, hw5]; exact heap_alloc_new w4 _
      have hw4 : w.heap.size ≤ w4.heap.size := k4.size
      generalize w4.heap.size = B at *
      clear hw5
      go_loopw [12, 13] (fun t i wr => ∃ (j : Nat) (x : Value) (TT : ByteArray), t = .string TT ∧ i = .int .i64 j ∧ j ≤ K ∧ Below w.heap.size w wr ∧ B + 1 ≤ wr.heap.size ∧ Hid (TT.data.toList = limT j) ∧ Hid (wr.heap[B]? = some (.cells #[.string ⟨#[97]⟩, x] 29 (0, 0))) ∧ Hid (RdLst (B + 1) wr x (List.replicate j [[78]]))) (fun _ i _ => K - (intOf i).toNat)
      case atStart => exact ⟨0, _, _, rfl, rfl, by omega, k5, by omega, rfl, HB5.out, (RowL.nil _ _ rfl : RdLst (B + 1) w5 (.slice none 0 0) [])⟩
      case round =>
        obtain ⟨j, x, TT, rfl, rfl, hj, hB, hsz, HT, H2, H3⟩ := hrel
        obtain ⟨Av, cv, rfl, hcv, _⟩ := RowL.form H3.out
        rw [List.length_replicate] at *
        have hTT : TT.size ≤ 200 := by rw [Lib.size_eq, HT.out, limT_len]; omega
        have cx1 := cell_of_row wr B 1 _ _ (0, 0) H2.out
        have cx0 := cell_of_row wr B 0 _ _ (0, 0) H2.out
        have fx1 := fzB H2.out 1
        simp at cx1 cx0
        by_cases hlt : j < K
        · have k1 : decide (j < K) = true := decide_eq_true hlt
          have hov : ¬ (9223372036854775807 < TT.size + 3) := by omega
          have hneB : ¬ B = wr.heap.size := by omega
          have hneB2 : ¬ B = wr.heap.size + 1 := by omega
          obtain ⟨xs, hx1, hx2, hx3⟩ := H3.out
          have bT : Below wr.heap.size wr ((wr.alloc (.cells #[.string ⟨#[78]⟩] 9)).alloc (.cells #[.slice (some ⟨wr.heap.size, 0, none⟩) 1 1] 50)) := ((Below.refl _ _).alloc (Nat.le_refl _) _).alloc (by simp) _
          have hown3 := own_chg hx2 (Chg.of_new (X := fun _ => False) bT) (fun _ _ e => e)
          rw [List.length_replicate] at hown3
          have hnews := World.news_of_block (heap_alloc_new (wr.alloc (.cells #[.string ⟨#[78]⟩] 9)) (.cells #[.slice (some ⟨wr.heap.size, 0, none⟩) 1 1] 50))
          rw [World.size_alloc] at hnews
          have hrow := (row_lit wr [.string ⟨#[78]⟩] 9).alloc (.cells #[.slice (some ⟨wr.heap.size, 0, none⟩) 1 1] 50)
          have HROW := Lib.hid hrow
          have h63 : j + 1 ≤ maxLen := by unfold maxLen; omega
          have hby : (j + 1) * 24 ≤ 140737488355328 := by omega
          have hbase : B + 1 ≤ ((wr.alloc (.cells #[.string ⟨#[78]⟩] 9)).alloc (.cells #[.slice (some ⟨wr.heap.size, 0, none⟩) 1 1] 50)).heap.size := by have := bT.size; omega
          have HX12 := Lib.hid (And.intro hx1 hx3)
          have HXL : Hid (∀ g, (Value.slice Av j cv).ownBlock = some g → g < wr.heap.size) := fun g hg => (hx2.lt g (by rw [List.length_replicate] at *; exact hg)).2
          clear hx1 hx3 hx2 hrow
          go_wp2_with (at_builtin; refine wpList_append_lies _ rfl (.tmp 93) (.tmp 96) 27 rfl (B + 1) 50 ir _ 1 24 Tryz.underlying27 ri rz0 rz1 rz2 rfl (by decide) _ j _ rfl hown3 ⟨wr.heap.size + 1, 0, none⟩ 1 1 [.slice (some ⟨wr.heap.size, 0, none⟩) 1 1] rfl rfl hnews (by simp [Value.oneCell']) (by decide) h63 hby hbase (wr.heap.size + 1 + 1) (by simp) ?_; intro g2 cap w6 hown5 hgr5 hat5 hlt5; have hrb7 := (hgr5.block B (by have := bT.size; omega) (fun e => by have := (hown3.lt B e.symm).1; omega)).trans ((bT.block B (by omega)).trans H2.out); have r1 := cell_of_row w6 B 1 _ _ (0, 0) hrb7; have rf1 := fzB hrb7 1; simp at r1)
          go_roundw
          case rel =>
            have cS := chg_setCell w6 B 1 (.slice (some ⟨g2, 0, none⟩) (j + 1) cap)
            have h := RowL.add (T := 50) (size := 1) (cells := fun (_ : List (List Bs)) (xs : List (Value × Value)) => xs.map (·.1)) (R := fun w p a => StrsV w p.1 a) (l := List.replicate j [[78]]) (a := [[78]]) (p := (.slice (some ⟨wr.heap.size, 0, none⟩) 1 1, .slice none 0 0)) (cs := [.slice (some ⟨wr.heap.size, 0, none⟩) 1 1]) (g := g2) (cap := cap) (w' := w6) HX12.out.1 (by rw [List.length_replicate]; exact hown3) (HX12.out.2.step (Chg.of_new (X := fun _ => False) bT) (fun _ _ e => e.elim) (fun _ _ e => e))
              ((Firm.cells HROW.out (fun b o s e _ hX => by
                cases e
                rcases hX with hX | hX
                · omega
                · have := HXL.out _ hX; omega)).mono fun w h => ⟨_, 1, rfl, Nat.le_refl _, h⟩) (by simp) (by rw [List.length_replicate]; exact hown5) hgr5 (hat5.imp id fun e => by rw [e]; simp)
            rw [List.length_replicate, ← rep_snoc] at h
            have hb6 : Below w.heap.size w w6 := (hB.trans (bT.mono hB.size)).grown hgr5 (by have := bT.size; have := hB.size; omega) fun g hg => by have := (hown3.lt g hg).1; omega
            refine ⟨j + 1, _, _, rfl, by go_num, by omega, hb6.setCell (p := ⟨B, 1, none⟩) (by show w.heap.size ≤ B; omega) _, ?_, ?_, heap_setCell_row (k := 1) hrb7, RowL.chg h cS fun b _ e => by omega⟩
            · have := cS.size; have := hgr5.size; have := bT.size; omega
            · rw [Hid, limT_snoc, ← HT.out]; simp
          case measure => simp [intOf]; omega
        · obtain rfl : j = K := by omega
          have k1 : decide (j < j) = false := decide_eq_false (by omega)
          have hb7 : Below wr.heap.size wr (wr.alloc (.cells #[.string ⟨#[97]⟩, .slice Av j cv] 29)) := (Below.refl _ _).alloc (Nat.le_refl _) _
          have p2 : Calls Tryz.prog 17 #[.slice (some ⟨wr.heap.size, 0, none⟩) 1 1] (wr.alloc (.cells #[.string ⟨#[97]⟩, .slice Av j cv] 29)) fun e w' => e = .returned (.tuple #[.string ⟨(cohsText (limR j)).1.toArray⟩, .int .i64 ((cohsText (limR j)).2 : Int)]) ∧ Below (wr.alloc (.cells #[.string ⟨#[97]⟩, .slice Av j cv] 29)).heap.size (wr.alloc (.cells #[.string ⟨#[97]⟩, .slice Av j cv] 29)) w' := by
            have hv : CohsV (wr.alloc (.cells #[.string ⟨#[97]⟩, .slice Av j cv] 29)) (.slice (some ⟨wr.heap.size, 0, none⟩) 1 1) (limR j) := ⟨[.slice Av j cv], ⟨_, 1, rfl, Nat.le_refl _, row_lit wr _ _⟩, ReadsV.below (RdLst.reads H3.out) hb7, trivial⟩
            exact text_any (some ⟨wr.heap.size, 0, none⟩) 1 (limR j) _ (hT.below (bstep hB hb7)).t hv (sized_limR j (by omega))
          have p3 := fun (W : World) (hW : Below wr.heap.size wr W) => parse_any TT W (hT.below (bstep hB hW))
          rw [HT.out] at p3
          obtain ⟨L1, L2, L3⟩ := lim_reads j (by omega) hK1
          generalize cohsText (limR j) = TE at *
          generalize parseL (limT j) = PL at *
          obtain ⟨T2, E2⟩ := TE
          obtain ⟨P1, P2, P3⟩ := PL
          obtain ⟨TB2, hTB2⟩ : ∃ TB : ByteArray, (⟨T2.toArray⟩ : ByteArray) = TB := ⟨_, rfl⟩
          dsimp only at *
          rw [hTB2] at p2
          obtain ⟨bK, hbK⟩ : ∃ b, decide (j ≤ 30) = b := ⟨_, rfl⟩
          obtain ⟨cK, hcK⟩ : ∃ b, decide (30 < j) = b := ⟨_, rfl⟩
          rw [hbK] at L1 L2
          rw [hcK] at L3
          have f1 : (((E2 : Nat) : Int) == 0) = bK := dec_nat L1
          have f2 : decide ((j : Int) ≤ 30) = bK := by rw [← hbK, Bool.eq_iff_iff, decide_eq_true_iff, decide_eq_true_iff]; omega
          have f3 : (((P3 : Nat) : Int) == 0) = bK := dec_nat L2
          have f4 : (((P2 : Nat) : Int) == 92) = cK := dec_nat L3
          have f5 : decide ((30 : Int) < (j : Int)) = cK := by rw [← hcK, Bool.eq_iff_iff, decide_eq_true_iff, decide_eq_true_iff]; omega
          clear hTB2 hbK hcK L1 L2 L3 HT H2 H3 HB5 k5
          go_wp2_with fail
          refine p2.mono ?_
          rintro e w6 ⟨rfl, b6⟩
          have b67 := bstep hb7 b6
          have k6 := bstep hB b67
          have p4 := p3 w6 b67
          clear p2 p3
          go_wp2_with fail
          refine p4.mono ?_
          rintro e w7 ⟨v7, rfl, V7, b7⟩
          have k7 := bstep k6 b7
          clear p4 V7
          go_wp2_with fail
          clear f1 f2 f3 f4 f5
          have hw7 : w.heap.size ≤ w7.heap.size := k7.size
          go_loopw [19, 20, 21] (fun u x i wr => ∃ (j : Nat) (U : ByteArray), u = .string U ∧ i = .int .i64 j ∧ j ≤ R ∧ Below w.heap.size w wr ∧ w7.heap.size ≤ wr.heap.size ∧ Hid (U.data.toList = limU j) ∧ Hid (RLst w7.heap.size wr x (limX j))) (fun _ _ i _ => R - (intOf i).toNat)
          case atStart => exact ⟨0, _, rfl, rfl, by omega, k7, Nat.le_refl _, rfl, (RowL.nil _ _ rfl : RLst w7.heap.size w7 (.slice none 0 0) [])⟩
          case round =>
            obtain ⟨i, U, rfl, rfl, hj, hB, hsz, HU, H3⟩ := hrel
            obtain ⟨Au, cu, rfl, hcv, _⟩ := RowL.form H3.out
            rw [limX_len] at *
            have hUU : U.size ≤ 2000 := by rw [Lib.size_eq, HU.out, limU_len]; omega
            by_cases hlt : i < R
            · have k1 : decide (i < R) = true := decide_eq_true hlt
              have hov : ¬ (9223372036854775807 < U.size + 9) := by omega
              obtain ⟨xs, hx1, hx2, hx3⟩ := H3.out
              have bT : Below wr.heap.size wr ((wr.alloc (.cells #[.string ⟨#[78]⟩] 9)).alloc (.cells #[.int .i64 1, .slice (some ⟨wr.heap.size, 0, none⟩) 1 1, .slice none 0 0, .bool false] 42)) := ((Below.refl _ _).alloc (Nat.le_refl _) _).alloc (by simp) _
              have hown3 := own_chg hx2 (Chg.of_new (X := fun _ => False) bT) (fun _ _ e => e)
              rw [limX_len] at hown3
              have hnews := World.news_of_block (heap_alloc_new (wr.alloc (.cells #[.string ⟨#[78]⟩] 9)) (.cells #[.int .i64 1, .slice (some ⟨wr.heap.size, 0, none⟩) 1 1, .slice none 0 0, .bool false] 42))
              rw [World.size_alloc] at hnews
              have hrow := (row_lit wr [.string ⟨#[78]⟩] 9).alloc (.cells #[.int .i64 1, .slice (some ⟨wr.heap.size, 0, none⟩) 1 1, .slice none 0 0, .bool false] 42)
              have HROW := Lib.hid hrow
              have h63 : i + 1 ≤ maxLen := by unfold maxLen; omega
              have hby : (i + 1) * 64 ≤ 140737488355328 := by omega
              have hbase : w7.heap.size ≤ ((wr.alloc (.cells #[.string ⟨#[78]⟩] 9)).alloc (.cells #[.int .i64 1, .slice (some ⟨wr.heap.size, 0, none⟩) 1 1, .slice none 0 0, .bool false] 42)).heap.size := by have := bT.size; omega
              have HX12 := Lib.hid (And.intro hx1 hx3)
              have HXL : Hid (∀ g, (Value.slice Au i cu).ownBlock = some g → g < wr.heap.size) := fun g hg => (hx2.lt g hg).2
              clear hx1 hx3 hx2 hrow
              go_wp2_with (at_builtin; refine wpList_append_lies _ rfl (.tmp 139) (.tmp 142) 37 rfl w7.heap.size 42 iu _ 4 64 Tryz.underlying37 ui uz0 uz1 uz2 rfl (by decide) _ i _ rfl hown3 ⟨wr.heap.size + 1, 0, none⟩ 1 1 [.int .i64 1, .slice (some ⟨wr.heap.size, 0, none⟩) 1 1, .slice none 0 0, .bool false] rfl rfl hnews (by simp [Value.oneCell']) (by decide) h63 hby hbase (wr.heap.size + 1 + 1) (by simp) ?_; intro g2 cap w6 hown5 hgr5 hat5 hlt5)
              go_roundw
              case rel =>
                have h := RowL.add (T := 42) (size := 4) (cells := rulCells) (R := RulV) (l := limX i) (a := ⟨1, [[78]], [], false⟩) (p := (.slice (some ⟨wr.heap.size, 0, none⟩) 1 1, .slice none 0 0)) (cs := [.int .i64 1, .slice (some ⟨wr.heap.size, 0, none⟩) 1 1, .slice none 0 0, .bool false]) (g := g2) (cap := cap) (w' := w6) HX12.out.1 (by rw [limX_len]; exact hown3) (HX12.out.2.step (Chg.of_new (X := fun _ => False) bT) (fun _ _ e => e.elim) (fun _ _ e => e))
                  ((Firm.cells HROW.out (fun b o s e _ hX => by
                    cases e
                    rcases hX with hX | hX
                    · omega
                    · have := HXL.out _ hX; omega)).mono fun w h => ⟨⟨_, 1, rfl, Nat.le_refl _, h⟩, [], Sl.nil _, trivial⟩) (rulCells_snoc _ _ _ _ HX12.out.1) (by rw [limX_len]; exact hown5) hgr5 (hat5.imp id fun e => by rw [e]; simp)
                rw [limX_len, ← limX_snoc] at h
                refine ⟨i + 1, _, rfl, by go_num, by omega, (hB.trans (bT.mono hB.size)).grown hgr5 (by have := bT.size; have := hB.size; omega) fun g hg => by have := (hown3.lt g hg).1; omega, by have := hgr5.size; have := bT.size; omega, ?_, h⟩
                rw [Hid, limU_snoc, ← HU.out]; simp
              case measure => simp [intOf]; omega
            · obtain rfl : i = R := by omega
              have k1 : decide (i < i) = false := decide_eq_false (by omega)
              have p2 := rules_any U wr (hT.below hB)
              rw [HU.out] at p2
              have p3 : ∀ W, Below wr.heap.size wr W → Calls Tryz.prog 24 #[.slice Au i cu] W fun e w' => e = .returned (.tuple #[.string ⟨(rulesText (limX i)).1.toArray⟩, .int .i64 ((rulesText (limX i)).2 : Int)]) ∧ Below W.heap.size W w' := fun W hW => by
                have hv := (RLst.ruls H3.out).below hW
                have h := rtext_any Au cu (limX i) W (hT.below (bstep hB hW)) (by rw [limX_len]; exact hv) (sized_limX i (by omega))
                rw [limX_len] at h
                exact h
              obtain ⟨L1, L2, L3⟩ := lim_rules i (by omega) hR1
              generalize rulesText (limX i) = TE at *
              generalize rulesRead atoiA (limU i) = PL at *
              obtain ⟨T4, E4⟩ := TE
              obtain ⟨Q1, Q2, Q3⟩ := PL
              obtain ⟨TB4, hTB4⟩ : ∃ TB : ByteArray, (⟨T4.toArray⟩ : ByteArray) = TB := ⟨_, rfl⟩
              dsimp only at *
              rw [hTB4] at p3
              obtain ⟨bR, hbR⟩ : ∃ b, decide (i ≤ 100) = b := ⟨_, rfl⟩
              obtain ⟨cR, hcR⟩ : ∃ b, decide (100 < i) = b := ⟨_, rfl⟩
              rw [hbR] at L1 L3
              rw [hcR] at L2
              have f1 : (((E4 : Nat) : Int) == 0) = bR := dec_nat L3
              have f2 : decide ((i : Int) ≤ 100) = bR := by rw [← hbR, Bool.eq_iff_iff, decide_eq_true_iff, decide_eq_true_iff]; omega
              have f3 : (((Q3 : Nat) : Int) == 0) = bR := dec_nat L1
              have f4 : (((Q2 : Nat) : Int) == 900) = cR := dec_nat L2
              have f5 : decide ((100 : Int) < (i : Int)) = cR := by rw [← hcR, Bool.eq_iff_iff, decide_eq_true_iff, decide_eq_true_iff]; omega
              clear hTB4 hbR hcR L1 L2 L3 HU H3
              go_wp2_with fail
              refine p2.mono ?_
              rintro e w8 ⟨v8, rfl, V8, b8⟩
              have k8 := bstep hB b8
              have p4 := p3 w8 b8
              clear p2 p3 V8
              go_wp2_with fail
              refine p4.mono ?_
              rintro e w9 ⟨rfl, b9⟩
              have k9 := bstep k8 b9
              clear p4
              go_wp2_with fail
              refine (awake_any w9 (hT.below k9)).mono ?_
              rintro e w10 ⟨rfl, b10⟩
              go_wp2_with fail
              go_returns
              exact ⟨rfl, bstep k9 b10⟩
theorem dT {p : Prop} [Decidable p] (h : p) : decide p = true := decide_eq_true h
theorem dF {p : Prop} [Decidable p] (h : ¬ p) : decide p = false := decide_eq_false h
set_option maxHeartbeats 8000000 in
set_option maxRecDepth 100000 in
theorem limits_any (n k r : Int) (w : World) (hT : TabH w) (z0 : (Lit.int .i64 n).wf = true) (z1 : (Lit.int .i64 k).wf = true) (z2 : (Lit.int .i64 r).wf = true) :
    Calls Tryz.prog 9 #[.int .i64 n, .int .i64 k, .int .i64 r] w fun e w' => e = .returned (.bool true) ∧ Below w.heap.size w w' := by
  clear z0 z1 z2
  by_cases hin : 195 ≤ n ∧ n ≤ 205 ∧ 28 ≤ k ∧ k ≤ 32 ∧ 98 ≤ r ∧ r ≤ 102
  · obtain ⟨h1, h2, h3, h4, h5, h6⟩ := hin
    obtain ⟨N, rfl⟩ : ∃ N : Nat, n = (N : Int) := ⟨n.toNat, by omega⟩
    obtain ⟨K, rfl⟩ : ∃ N : Nat, k = (N : Int) := ⟨k.toNat, by omega⟩
    obtain ⟨R, rfl⟩ : ∃ N : Nat, r = (N : Int) := ⟨r.toNat, by omega⟩
    exact limits_main N K R w hT (by omega) (by omega) (by omega) (by omega) (by omega) (by omega)
  · have p0 := awake_any w hT
    have hc : n < 195 ∨ (¬ n < 195 ∧ 205 < n) ∨ (¬ n < 195 ∧ ¬ 205 < n ∧ k < 28) ∨ (¬ n < 195 ∧ ¬ 205 < n ∧ ¬ k < 28 ∧ 32 < k) ∨ (¬ n < 195 ∧ ¬ 205 < n ∧ ¬ k < 28 ∧ ¬ 32 < k ∧ r < 98) ∨ (¬ n < 195 ∧ ¬ 205 < n ∧ ¬ k < 28 ∧ ¬ 32 < k ∧ ¬ r < 98 ∧ 102 < r) := by omega
    clear hin
    rcases hc with h1 | ⟨h1, h2⟩ | ⟨h1, h2, h3⟩ | ⟨h1, h2, h3, h4⟩ | ⟨h1, h2, h3, h4, h5⟩ | ⟨h1, h2, h3, h4, h5, h6⟩
    · have d1 := dT h1
      clear h1
      go_enter Tryz.func9, Tryz.ntmps9
      go_wp2_with fail
      refine p0.mono ?_
      rintro e w1 ⟨rfl, b1⟩
      go_wp2_with fail
      go_returns
      exact ⟨rfl, b1⟩
    · have d1 := dF h1
      have d2 := dT h2
      clear h1 h2
      go_enter Tryz.func9, Tryz.ntmps9
      go_wp2_with fail
      refine p0.mono ?_
      rintro e w1 ⟨rfl, b1⟩
      go_wp2_with fail
      go_returns
      exact ⟨rfl, b1⟩
    · have d1 := dF h1
      have d2 := dF h2
      have d3 := dT h3
      clear h1 h2 h3
      go_enter Tryz.func9, Tryz.ntmps9
      go_wp2_with fail
      refine p0.mono ?_
      rintro e w1 ⟨rfl, b1⟩
      go_wp2_with fail
      go_returns
      exact ⟨rfl, b1⟩
    · have d1 := dF h1
      have d2 := dF h2
      have d3 := dF h3
      have d4 := dT h4
      clear h1 h2 h3 h4
      go_enter Tryz.func9, Tryz.ntmps9
      go_wp2_with fail
      refine p0.mono ?_
      rintro e w1 ⟨rfl, b1⟩
      go_wp2_with fail
      go_returns
      exact ⟨rfl, b1⟩
    · have d1 := dF h1
      have d2 := dF h2
      have d3 := dF h3
      have d4 := dF h4
      have d5 := dT h5
      clear h1 h2 h3 h4 h5
      go_enter Tryz.func9, Tryz.ntmps9
      go_wp2_with fail
      refine p0.mono ?_
      rintro e w1 ⟨rfl, b1⟩
      go_wp2_with fail
      go_returns
      exact ⟨rfl, b1⟩
    · have d1 := dF h1
      have d2 := dF h2
      have d3 := dF h3
      have d4 := dF h4
      have d5 := dF h5
      have d6 := dT h6
      clear h1 h2 h3 h4 h5 h6
      go_enter Tryz.func9, Tryz.ntmps9
      go_wp2_with fail
      refine p0.mono ?_
      rintro e w1 ⟨rfl, b1⟩
      go_wp2_with fail
      go_returns
      exact ⟨rfl, b1⟩
end Go.Proofs.YtplipnchkkhdaaaGreatDoor
