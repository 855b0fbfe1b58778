/- RatKnown (walk, under way). -/
import Derived.Test.YtfgmjdhoeilhcaaGreatDoorKn
import Derived.Test.YtfgmjdhoeilhcaaGreatDoorKj
namespace Go.Proofs.YtfgmjdhoeilhcaaGreatDoor
open Go.RowKit
set_option linter.unusedVariables false
def knownE : Array MapEntry := #[{ key := .string ⟨#[48, 48, 55]⟩, val := .string ⟨#[55]⟩, born := 0 }, { key := .string ⟨#[54, 47, 56]⟩, val := .string ⟨#[51, 47, 52]⟩, born := 1 }, { key := .string ⟨#[45, 49, 46, 53, 48]⟩, val := .string ⟨#[45, 51, 47, 50]⟩, born := 2 }, { key := .string ⟨#[45, 48]⟩, val := .string ⟨#[48]⟩, born := 3 }, { key := .string ⟨#[48, 46, 48]⟩, val := .string ⟨#[48]⟩, born := 4 }, { key := .string ⟨#[48, 48, 47, 53]⟩, val := .string ⟨#[48]⟩, born := 5 }, { key := .string ⟨#[45, 49, 48, 47, 52]⟩, val := .string ⟨#[45, 53, 47, 50]⟩, born := 6 }]
theorem known_mem : ∀ e ∈ knownE.toList, ∃ k v : ByteArray, e.key = .string k ∧ e.val = .string v ∧ k.size ≤ 100 ∧ parseR k.data.toList = (v.data.toList, 0) := by
  intro e he
  have : e ∈ [{ key := .string ⟨#[48, 48, 55]⟩, val := .string ⟨#[55]⟩, born := 0 }, { key := .string ⟨#[54, 47, 56]⟩, val := .string ⟨#[51, 47, 52]⟩, born := 1 }, { key := .string ⟨#[45, 49, 46, 53, 48]⟩, val := .string ⟨#[45, 51, 47, 50]⟩, born := 2 }, { key := .string ⟨#[45, 48]⟩, val := .string ⟨#[48]⟩, born := 3 }, { key := .string ⟨#[48, 46, 48]⟩, val := .string ⟨#[48]⟩, born := 4 }, { key := .string ⟨#[48, 48, 47, 53]⟩, val := .string ⟨#[48]⟩, born := 5 }, { key := .string ⟨#[45, 49, 48, 47, 52]⟩, val := .string ⟨#[45, 53, 47, 50]⟩, born := 6 }] := he
  simp only [List.mem_cons, List.not_mem_nil, or_false] at this
  rcases this with rfl | rfl | rfl | rfl | rfl | rfl | rfl <;> exact ⟨_, _, rfl, rfl, by decide, by decide +kernel⟩
def formL : List ByteArray := [⟨#[]⟩, ⟨#[45]⟩, ⟨#[49, 46]⟩, ⟨#[47, 50]⟩, ⟨#[49, 47, 48, 48]⟩, ⟨#[43, 49]⟩, ⟨#[49, 47]⟩, ⟨#[46, 53]⟩, ⟨#[49, 47, 50, 47, 51]⟩, ⟨#[49, 32]⟩, ⟨#[45, 45, 49]⟩]
def badL : List ByteArray := [⟨#[54, 47, 50]⟩, ⟨#[51, 47, 49]⟩, ⟨#[45, 48]⟩, ⟨#[49, 47, 48]⟩, ⟨#[]⟩, ⟨#[48, 47, 49]⟩, ⟨#[48, 49]⟩, ⟨#[49, 47, 45, 50]⟩, ⟨#[45]⟩, ⟨#[49, 47]⟩]
theorem formL_ok : ∀ s ∈ formL, s.size ≤ 10 ∧ parseR s.data.toList = ([], 3) := by
  intro s hs
  have : s ∈ ([⟨#[]⟩, ⟨#[45]⟩, ⟨#[49, 46]⟩, ⟨#[47, 50]⟩, ⟨#[49, 47, 48, 48]⟩, ⟨#[43, 49]⟩, ⟨#[49, 47]⟩, ⟨#[46, 53]⟩, ⟨#[49, 47, 50, 47, 51]⟩, ⟨#[49, 32]⟩, ⟨#[45, 45, 49]⟩] : List ByteArray) := hs
  simp only [List.mem_cons, List.not_mem_nil, or_false] at this
  rcases this with rfl | rfl | rfl | rfl | rfl | rfl | rfl | rfl | rfl | rfl | rfl <;> exact ⟨by decide, by decide +kernel⟩
theorem badL_ok : ∀ s ∈ badL, s.size ≤ 10 ∧ (ratV s.data.toList).isSome = false := by
  intro s hs
  have : s ∈ ([⟨#[54, 47, 50]⟩, ⟨#[51, 47, 49]⟩, ⟨#[45, 48]⟩, ⟨#[49, 47, 48]⟩, ⟨#[]⟩, ⟨#[48, 47, 49]⟩, ⟨#[48, 49]⟩, ⟨#[49, 47, 45, 50]⟩, ⟨#[45]⟩, ⟨#[49, 47]⟩] : List ByteArray) := hs
  simp only [List.mem_cons, List.not_mem_nil, or_false] at this
  rcases this with rfl | rfl | rfl | rfl | rfl | rfl | rfl | rfl | rfl | rfl <;> exact ⟨by decide, by decide +kernel⟩
theorem cellsL (w : World) (l : List ByteArray) : ∀ j (h : j < l.length), (w.alloc (.cells (l.map Value.string).toArray 9)).cell? ⟨w.heap.size, j, none⟩ = some (.string l[j]) := fun j h => by
  rw [cell_of_row (w.alloc _) w.heap.size j _ _ (0, 0) (heap_alloc_new w _)]
  simp [h]
def tenS (k : Nat) : ByteArray := ⟨(49 :: List.replicate k 48).toArray⟩
theorem tenS_size (k : Nat) : (tenS k).size = k + 1 := by rw [Lib.size_eq]; show (49 :: List.replicate k 48).length = _; simp
theorem tenS_succ (k : Nat) : tenS k ++ ⟨#[48]⟩ = tenS (k + 1) := by
  have h : (tenS k ++ ⟨#[48]⟩).data.toList = (tenS (k + 1)).data.toList := by
    rw [Joins.data_append]
    show (49 :: List.replicate k 48) ++ [48] = 49 :: List.replicate (k + 1) 48
    rw [List.replicate_succ', List.cons_append]
  have e : ∀ a b : ByteArray, a.data.toList = b.data.toList → a = b := by
    intro a b h; cases a; cases b; simp at h; rw [h]
  exact e _ _ h
theorem data_ext {a b : ByteArray} (h : a.data.toList = b.data.toList) : a = b := by
  cases a; cases b; simp at h; rw [h]
theorem tenS_data : (tenS 399).data.toList = tenB := rfl
set_option maxHeartbeats 2000000 in
set_option maxRecDepth 100000 in
theorem ratKnown_law (w : World) (hT : Tabs w) :
    Calls Tryz.prog 9 #[] w fun e w' => e = .returned (.bool true) ∧ Below w.heap.size w w' := by
  have hmm := @run_makeMap Tryz.prog
  have q0 := put0 w
  have q1 := put1 w
  have q2 := put2 w
  have q3 := put3 w
  have q4 := put4 w
  have q5 := put5 w
  have q6 : (Instr.mapUpdate _ _ _ _).run Tryz.prog _ = .ok () (w.alloc (.map knownE 7)) := put6 w
  have hW : Below w.heap.size w (w.alloc (.map knownE 7)) := (Below.refl _ w).alloc (Nat.le_refl _) _
  have hbm : (w.alloc (.map knownE 7)).heap[w.heap.size]? = some (.map knownE 7) := heap_alloc_new w _
  have qr := run_range_map (P := Tryz.prog) (w.alloc (.map knownE 7)) 40 9 9 w.heap.size knownE 7 Tryz.underlying40 hbm
  go_enter Tryz.func9, Tryz.ntmps9
  go_wp2_with fail
  clear hmm q0 q1 q2 q3 q4 q5 q6 qr
  go_loopw [0, 1, 2, 3, 4] (fun v0 _ _ _ _ wr => v0 = .bool false ∧ ∃ (seen : Array Nat) (c0 : Nat), Hid (wr.heap[w.heap.size]? = some (.map knownE 7)) ∧ Hid (wr.heap[w.heap.size + 1]? = some (.mapIter (some w.heap.size) 7 seen c0)) ∧ 7 ≤ c0 ∧ Below w.heap.size w wr) (fun _ _ _ _ _ wr => (leftOf knownE (wr.iterSeen (w.heap.size + 1))).size)
  case atStart =>
    refine ⟨rfl, #[], 7, ?_, ?_, by omega, hW.alloc hW.size _⟩
    · rw [Hid, heap_alloc_old _ _ (by simp), hbm]
    · have := heap_alloc_new (w.alloc (.map knownE 7)) (.mapIter (some w.heap.size) 7 #[] 7)
      simpa [Hid] using this
  case round =>
    obtain ⟨rfl, seen, c0, HB, HR, hc, hB⟩ := hrel
    have hn := fun ty => run_next_at (P := Tryz.prog) wr ty (w.heap.size + 1) w.heap.size 7 c0 seen knownE 7 HR.out HB.out (by decide) hc
    rcases hn 0 with ⟨h0, hrun⟩ | ⟨e, he, w1, hal, hrun⟩
    · clear hn
      clear HB HR h0
      obtain ⟨wa, rfl⟩ : ∃ W, W = wr := ⟨_, rfl⟩
      have hC2 := Lib.hid (cellsL wa formL)
      have hbA : Below w.heap.size w (wa.alloc (.cells (formL.map Value.string).toArray 9)) := hB.alloc hB.size _
      go_wp2_with fail
      clear hrun
      go_loopw [0, 6, 7, 8, 50] (fun v0 _ _ _ i w2 => v0 = .bool false ∧ ∃ k : Nat, i = .int .i64 k ∧ k ≤ 11 ∧ Hid (∀ j (h : j < formL.length), w2.cell? ⟨wa.heap.size, j, none⟩ = some (.string formL[j])) ∧ wa.heap.size < w2.heap.size ∧ Below w.heap.size w w2) (fun _ _ _ _ i _ => 11 - (intOf i).toNat)
      case atStart => exact ⟨rfl, 0, rfl, by omega, hC2, by simp, hbA⟩
      case round =>
        obtain ⟨rfl, k, rfl, hk, HC, hlt2, hB2⟩ := hrel
        by_cases hlt : k < 11
        · have hcell := HC.out k hlt
          obtain ⟨hsz, hpv⟩ := formL_ok formL[k] (List.getElem_mem _)
          have k0 : (0 : Int) ≤ (k : Int) := by omega
          have k1 : (k : Int) < 11 := by omega
          generalize formL[k] = s at hcell hsz hpv
          have p1 := qparse_any s wr (hT.below hB2) (by omega)
          unfold TxtPost at p1
          rw [hpv] at p1
          clear hpv hC2
          go_wp2_with fail
          refine p1.mono ?_
          rintro x wx ⟨rfl, bx⟩
          go_wp2_with fail
          have HC3 : Hid (∀ j (h : j < formL.length), wx.cell? ⟨wa.heap.size, j, none⟩ = some (.string formL[j])) := fun j h => (bx.cell (p := ⟨wa.heap.size, j, none⟩) hlt2).trans (HC.out j h)
          go_roundw
          case rel => exact ⟨rfl, k + 1, by go_num, by omega, HC3, Nat.lt_of_lt_of_le hlt2 bx.size, bstep hB2 bx⟩
          case measure => simp [intOf]; omega
        · obtain rfl : k = 11 := by omega
          clear HC hC2 hbA hB hlt2 hc
          obtain ⟨wb, rfl⟩ : ∃ W, W = wr := ⟨_, rfl⟩
          have hC2 := Lib.hid (cellsL wb badL)
          have hbA : Below w.heap.size w (wb.alloc (.cells (badL.map Value.string).toArray 9)) := hB2.alloc hB2.size _
          go_wp2_with fail
          go_loopw [0, 10, 68] (fun v0 _ i w2 => v0 = .bool false ∧ ∃ k : Nat, i = .int .i64 k ∧ k ≤ 10 ∧ Hid (∀ j (h : j < badL.length), w2.cell? ⟨wb.heap.size, j, none⟩ = some (.string badL[j])) ∧ wb.heap.size < w2.heap.size ∧ Below w.heap.size w w2) (fun _ _ i _ => 10 - (intOf i).toNat)
          case atStart => exact ⟨rfl, 0, rfl, by omega, hC2, by simp, hbA⟩
          case round =>
            obtain ⟨rfl, k, rfl, hk, HC, hlt2, hB3⟩ := hrel
            by_cases hlt : k < 10
            · have hcell := HC.out k hlt
              obtain ⟨hsz, hpv⟩ := badL_ok badL[k] (List.getElem_mem _)
              have k0 : (0 : Int) ≤ (k : Int) := by omega
              have k1 : (k : Int) < 10 := by omega
              generalize badL[k] = s at hcell hsz hpv
              have p1 := qvalid_any s wr (hT.below hB3) (by omega)
              rw [hpv] at p1
              clear hpv hC2
              go_wp2_with fail
              refine p1.mono ?_
              rintro x wx ⟨rfl, bx⟩
              go_wp2_with fail
              have HC3 : Hid (∀ j (h : j < badL.length), wx.cell? ⟨wb.heap.size, j, none⟩ = some (.string badL[j])) := fun j h => (bx.cell (p := ⟨wb.heap.size, j, none⟩) hlt2).trans (HC.out j h)
              go_roundw
              case rel =>
                (repeat apply Exists.intro)
                exact ⟨⟨rfl, k + 1, by go_num, by omega, HC3, Nat.lt_of_lt_of_le hlt2 bx.size, bstep hB3 bx⟩, rfl⟩
              case measure => simp [intOf]; omega
            · obtain rfl : k = 10 := by omega
              clear HC hC2 hbA hB2 hlt2
              obtain ⟨wc, rfl⟩ : ∃ W, W = wr := ⟨_, rfl⟩
              have hT3 := hT.below hB3
              go_wp2_with fail
              go_loop [11] (fun v => ∃ k : Nat, k ≤ 399 ∧ v = .string (tenS k)) (fun v => 400 - strLen v)
              case atStart => exact ⟨0, by omega, rfl⟩
              case round =>
                obtain ⟨k, hk, rfl⟩ := hrel
                have hsz := tenS_size k
                by_cases hlt : k < 399
                · have hs := tenS_succ k
                  have h1 : ((tenS k).size : Int) < 400 := by omega
                  have HZ := Lib.hid hsz
                  clear hsz
                  go_wp2_with fail
                  go_round
                  case rel => exact ⟨k + 1, by omega, rfl⟩
                  case measure => simp only [strLen]; rw [HZ.out, tenS_size]; omega
                · obtain rfl : k = 399 := by omega
                  have hTd := tenS_data
                  generalize tenS 399 = T at *
                  obtain ⟨U, hU⟩ : ∃ U : ByteArray, (⟨(49 :: 47 :: tenB).toArray⟩ : ByteArray) = U := ⟨_, rfl⟩
                  obtain ⟨V, hV⟩ : ∃ V : ByteArray, T ++ ⟨#[48]⟩ = V := ⟨_, rfl⟩
                  have hUd : U.data.toList = 49 :: 47 :: tenB := by rw [← hU]
                  have hVd : V.data.toList = tenB ++ [48] := by rw [← hV, Joins.data_append, hTd]
                  have hTU : (⟨#[49, 47]⟩ : ByteArray) ++ T = U := by
                    apply data_ext
                    rw [Joins.data_append, hTd, hUd]
                    rfl
                  have hUs : U.size ≤ 1000 := by rw [Lib.size_eq, hUd]; show (49 :: 47 :: tenB).length ≤ 1000; simp [tenB]
                  have hVs : V.size ≤ 1000 := by rw [Lib.size_eq, hVd]; simp [tenB]
                  have hTs : T.size ≤ 1000 := by omega
                  have c1 := fun W h => qmul_any T ⟨#[49, 48]⟩ W h (by omega) (by decide)
                  have c2 := fun W h => qdiv_any ⟨#[49]⟩ T W h (by decide) (by omega)
                  have c3 := fun W h => qmul_any U ⟨#[49, 47, 49, 48]⟩ W h (by omega) (by decide)
                  have c4 := fun W h => qparse_any V W h (by omega)
                  have c5 := fun W h => qmul_any T U W h (by omega) (by omega)
                  have c6 := fun W h => qneg_any ⟨#[50, 47, 51]⟩ W h (by decide)
                  have c7 := fun W h => qneg_any ⟨#[50, 47, 54]⟩ W h (by decide)
                  have c8 := fun W h => qmake_any false ⟨#[49]⟩ ⟨#[48]⟩ W h (by decide) (by decide)
                  have c9 := fun W h => qmake_any true ⟨#[48]⟩ ⟨#[53]⟩ W h (by decide) (by decide)
                  have c10 := fun W h => qvalid_any T W h (by omega)
                  have c11 := fun W h => qvalid_any V W h (by omega)
                  rw [hTd, show ratMul tenB (⟨#[49, 48]⟩ : ByteArray).data.toList = ([], 2) from known1] at c1
                  rw [hTd, show ratDiv (⟨#[49]⟩ : ByteArray).data.toList tenB = (49 :: 47 :: tenB, 0) from known2] at c2
                  rw [hUd, show ratMul (49 :: 47 :: tenB) (⟨#[49, 47, 49, 48]⟩ : ByteArray).data.toList = ([], 2) from known3] at c3
                  rw [hVd, known4] at c4
                  rw [hTd, hUd, known5] at c5
                  rw [show ratNeg (⟨#[50, 47, 51]⟩ : ByteArray).data.toList = ([45, 50, 47, 51], 0) from known6] at c6
                  rw [hTd, known10] at c10
                  rw [hVd, known11] at c11
                  rw [show ratMake true (⟨#[48]⟩ : ByteArray).data.toList (⟨#[53]⟩ : ByteArray).data.toList = ([48], 0) from known9] at c9
                  unfold TxtPost at c1 c2 c3 c4 c5 c6 c7 c8 c9
                  rw [show (ratNeg (⟨#[50, 47, 54]⟩ : ByteArray).data.toList).2 = 1 from known7] at c7
                  rw [show (ratMake false (⟨#[49]⟩ : ByteArray).data.toList (⟨#[48]⟩ : ByteArray).data.toList).2 = 1 from known8] at c8
                  generalize (ratNeg (⟨#[50, 47, 54]⟩ : ByteArray).data.toList).1 = l7 at c7
                  generalize (ratMake false (⟨#[49]⟩ : ByteArray).data.toList (⟨#[48]⟩ : ByteArray).data.toList).1 = l8 at c8
                  simp only [hU] at c2
                  have i1 := fun W => is_any U U 0 W
                  have i2 := fun W => is_any ⟨#[49]⟩ ⟨#[49]⟩ 0 W
                  have i3 := fun W => is_any ⟨#[45, 50, 47, 51]⟩ ⟨#[45, 50, 47, 51]⟩ 0 W
                  have i4 := fun W => is_any ⟨#[48]⟩ ⟨#[48]⟩ 0 W
                  simp only [decide_true, Bool.and_self] at i1 i2 i3 i4
                  have HZ : ((T.size : Nat) : Int) = 400 := by omega
                  clear hTd hUd hVd hU hVs hsz hlt hk
                  go_wp2_with fail
                  refine (c1 _ hT3).mono ?_
                  rintro e w1 ⟨rfl, b1⟩
                  have hA1 := bstep hB3 b1
                  clear HZ
                  go_wp2_with fail
                  refine (c2 _ (hT.below hA1)).mono ?_
                  rintro e w2 ⟨rfl, b2⟩
                  have hA2 := bstep hA1 b2
                  go_wp2_with fail
                  refine (c3 _ (hT.below hA2)).mono ?_
                  rintro e w3 ⟨rfl, b3⟩
                  have hA3 := bstep hA2 b3
                  go_wp2_with fail
                  refine (c4 _ (hT.below hA3)).mono ?_
                  rintro e w4 ⟨rfl, b4⟩
                  have hA4 := bstep hA3 b4
                  go_wp2_with fail
                  refine (c5 _ (hT.below hA4)).mono ?_
                  rintro e w5 ⟨rfl, b5⟩
                  have hA5 := bstep hA4 b5
                  go_wp2_with fail
                  refine (c6 _ (hT.below hA5)).mono ?_
                  rintro e w6 ⟨rfl, b6⟩
                  have hA6 := bstep hA5 b6
                  go_wp2_with fail
                  refine (c7 _ (hT.below hA6)).mono ?_
                  rintro e w7 ⟨rfl, b7⟩
                  have hA7 := bstep hA6 b7
                  go_wp2_with fail
                  refine (c8 _ (hT.below hA7)).mono ?_
                  rintro e w8 ⟨rfl, b8⟩
                  have hA8 := bstep hA7 b8
                  go_wp2_with fail
                  refine (c9 _ (hT.below hA8)).mono ?_
                  rintro e w9 ⟨rfl, b9⟩
                  have hA9 := bstep hA8 b9
                  go_wp2_with fail
                  refine (i1 _).mono ?_
                  rintro e wi ⟨rfl, rfl⟩
                  go_wp2_with fail
                  refine (i2 _).mono ?_
                  rintro e wi ⟨rfl, rfl⟩
                  go_wp2_with fail
                  refine (i3 _).mono ?_
                  rintro e wi ⟨rfl, rfl⟩
                  go_wp2_with fail
                  refine (i4 _).mono ?_
                  rintro e wi ⟨rfl, rfl⟩
                  go_wp2_with fail
                  refine (c10 _ (hT.below hA9)).mono ?_
                  rintro e w10 ⟨rfl, b10⟩
                  have hA10 := bstep hA9 b10
                  go_wp2_with fail
                  refine (c11 _ (hT.below hA10)).mono ?_
                  rintro e w11 ⟨rfl, b11⟩
                  have hA11 := bstep hA10 b11
                  go_wp2_with fail
                  refine (awake_any _ (hT.below hA11)).mono ?_
                  rintro e w12 ⟨rfl, b12⟩
                  have hA12 := bstep hA11 b12
                  go_wp2_with fail
                  go_returns
                  exact ⟨rfl, hA12⟩
    · clear hn
      obtain ⟨hm, hns⟩ := mem_left he
      obtain ⟨k, v, hk, hv, hks, hpv⟩ := known_mem e hm
      have ht := next_tape wr 0 _ _ _ _ _ _ _ HR.out HB.out (by decide) hc _ _ hrun
      have hsh := left_shrinks knownE seen e he
      have hal : w1.heap = wr.heap ∧ w1.os = wr.os ∧ w1.output = wr.output := by rcases hal with rfl | rfl <;> exact ⟨rfl, rfl, rfl⟩
      have hrlt : w.heap.size + 1 < wr.heap.size := (Array.getElem?_eq_some_iff.1 HR.out).1
      obtain ⟨W2, hW2⟩ : ∃ W, ChangeMaps.setBlock w1 (w.heap.size + 1) (Obj.mapIter (some w.heap.size) 7 (seen.push e.born) 7) = W := ⟨_, rfl⟩
      have hh2 : W2.heap = wr.heap.setIfInBounds (w.heap.size + 1) (Obj.mapIter (some w.heap.size) 7 (seen.push e.born) 7) := by rw [← hW2, ← hal.1]; rfl
      have HR2 : Hid (W2.heap[w.heap.size + 1]? = some (.mapIter (some w.heap.size) 7 (seen.push e.born) 7)) := by rw [Hid, hh2, Array.getElem?_setIfInBounds_self_of_lt hrlt]
      have HB2 : Hid (W2.heap[w.heap.size]? = some (.map knownE 7)) := by rw [Hid, hh2, Array.getElem?_setIfInBounds_ne (by omega)]; exact HB.out
      have b2 : Below w.heap.size w W2 := ⟨by rw [← hW2]; exact hal.2.1.trans hB.os, by rw [← hW2]; exact ht.trans hB.tape, by rw [← hW2]; exact hal.2.2.trans hB.output, by rw [hh2, Array.size_setIfInBounds]; exact hB.size, fun k hk => by rw [hh2, Array.getElem?_setIfInBounds_ne (by omega)]; exact hB.block k hk⟩
      have hen := run_entry_at (P := Tryz.prog) W2 (w.heap.size + 1) w.heap.size 7 seen knownE 7 e HR2.out HB2.out hm (by decide)
      rw [hW2, hk, hv] at hrun
      rw [hk, hv] at hen
      have p1 := qparse_any k W2 (hT.below b2) (by omega)
      unfold TxtPost at p1
      rw [hpv] at p1
      have hvv : (⟨v.data.toList.toArray⟩ : ByteArray) = v := data_of rfl
      simp only [hvv] at p1
      have i1 := fun W => is_any v v 0 W
      rw [decide_eq_true rfl, decide_eq_true rfl] at i1
      have HS := Lib.hid hsh
      clear hsh hh2 hW2 hal ht hm hns he hk hv hks hpv hvv
      go_wp2_with fail
      refine p1.mono ?_
      rintro x wx ⟨rfl, bx⟩
      have b3 := bstep b2 bx
      go_wp2_with (go_at_call 32; refine (i1 _).mono ?_; rintro e wi ⟨rfl, rfl⟩)
      have HB3 : Hid (wx.heap[w.heap.size]? = some (.map knownE 7)) := by rw [Hid, bx.block _ (Array.getElem?_eq_some_iff.1 HB2.out).1]; exact HB2.out
      have HR3 : Hid (wx.heap[w.heap.size + 1]? = some (.mapIter (some w.heap.size) 7 (seen.push e.born) 7)) := by rw [Hid, bx.block _ (Array.getElem?_eq_some_iff.1 HR2.out).1]; exact HR2.out
      refine ⟨⟨rfl, seen.push e.born, 7, HB3, HR3, by omega, b3⟩, ?_⟩
      unfold World.iterSeen
      rw [HR3.out, HR.out]
      exact HS.out
end Go.Proofs.YtfgmjdhoeilhcaaGreatDoor
