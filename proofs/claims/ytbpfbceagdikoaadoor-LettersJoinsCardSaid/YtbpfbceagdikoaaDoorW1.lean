/- Walks of layer 1: the functions of one string or one code point. -/
import Derived.Test.YtbpfbceagdikoaaDoorWords
import Derived.WalkSpells
import Derived.WalkLawsBesides
import Derived.Deep.Light
import Derived.BigQuiet
import Derived.Deep.QuietTactic
namespace Go.Proofs.YtbpfbceagdikoaaDoor
open Go.RowKit

set_option maxHeartbeats 400000 in
theorem piece_any (s : ByteArray) (w : World) (hT : Tabs w) :
    Calls Tryd.prog 34 #[.string s] w fun e w' => e = .returned (.tuple #[.int .i32 (Lib.decodeGo s).1, .int .i64 (Lib.decodeGo s).2, .bool (okL s.data.toList)]) ∧ Below w.heap.size w w' := by
  have h1 := decodeGo_eq s
  obtain ⟨r, hr⟩ : ∃ r, (Lib.decodeGo s).1 = r := ⟨_, rfl⟩
  obtain ⟨n, hn⟩ : ∃ n, (Lib.decodeGo s).2 = n := ⟨_, rfl⟩
  have hd := Tryd.utf8_DecodeRuneInString s w hT.u8
  have hok : okL s.data.toList = (decide (r ≠ 65533) || decide (1 < n)) := by rw [← hr, ← hn]; exact okL_eq s
  rw [hr, hn] at hd ⊢
  have HK := Lib.hid hok
  clear h1 hr hn hok
  go_enter Tryd.func34, Tryd.ntmps34
  go_wp2_with (go_at_call 53; refine hd.mono ?_; rintro e w1 ⟨rfl, hb⟩)
  all_goals go_returns
  all_goals refine ⟨?_, hb⟩
  all_goals rw [HK.out]
  all_goals go_light
  · have hr : r = 65533 := by omega
    simp [hr]; omega
  · have hr : r ≠ 65533 := by omega
    simp [hr]

theorem index_span (k : Nat) (hk : k < 12) (w : World) : (Instr.index 68 (.agg spanCells) (.int .i64 k)).run Tryd.prog w = .ok (.agg #[.int .i32 (spA k), .int .i32 (spB k), .int .i64 (spC k)]) w := by
  have i0 : (Instr.index 68 (.agg spanCells) (.int .i64 ((0 : Nat) : Int))).run Tryd.prog w = .ok (.agg #[.int .i32 (spA 0), .int .i32 (spB 0), .int .i64 (spC 0)]) w := by kernel_rfl
  have i1 : (Instr.index 68 (.agg spanCells) (.int .i64 ((1 : Nat) : Int))).run Tryd.prog w = .ok (.agg #[.int .i32 (spA 1), .int .i32 (spB 1), .int .i64 (spC 1)]) w := by kernel_rfl
  have i2 : (Instr.index 68 (.agg spanCells) (.int .i64 ((2 : Nat) : Int))).run Tryd.prog w = .ok (.agg #[.int .i32 (spA 2), .int .i32 (spB 2), .int .i64 (spC 2)]) w := by kernel_rfl
  have i3 : (Instr.index 68 (.agg spanCells) (.int .i64 ((3 : Nat) : Int))).run Tryd.prog w = .ok (.agg #[.int .i32 (spA 3), .int .i32 (spB 3), .int .i64 (spC 3)]) w := by kernel_rfl
  have i4 : (Instr.index 68 (.agg spanCells) (.int .i64 ((4 : Nat) : Int))).run Tryd.prog w = .ok (.agg #[.int .i32 (spA 4), .int .i32 (spB 4), .int .i64 (spC 4)]) w := by kernel_rfl
  have i5 : (Instr.index 68 (.agg spanCells) (.int .i64 ((5 : Nat) : Int))).run Tryd.prog w = .ok (.agg #[.int .i32 (spA 5), .int .i32 (spB 5), .int .i64 (spC 5)]) w := by kernel_rfl
  have i6 : (Instr.index 68 (.agg spanCells) (.int .i64 ((6 : Nat) : Int))).run Tryd.prog w = .ok (.agg #[.int .i32 (spA 6), .int .i32 (spB 6), .int .i64 (spC 6)]) w := by kernel_rfl
  have i7 : (Instr.index 68 (.agg spanCells) (.int .i64 ((7 : Nat) : Int))).run Tryd.prog w = .ok (.agg #[.int .i32 (spA 7), .int .i32 (spB 7), .int .i64 (spC 7)]) w := by kernel_rfl
  have i8 : (Instr.index 68 (.agg spanCells) (.int .i64 ((8 : Nat) : Int))).run Tryd.prog w = .ok (.agg #[.int .i32 (spA 8), .int .i32 (spB 8), .int .i64 (spC 8)]) w := by kernel_rfl
  have i9 : (Instr.index 68 (.agg spanCells) (.int .i64 ((9 : Nat) : Int))).run Tryd.prog w = .ok (.agg #[.int .i32 (spA 9), .int .i32 (spB 9), .int .i64 (spC 9)]) w := by kernel_rfl
  have i10 : (Instr.index 68 (.agg spanCells) (.int .i64 ((10 : Nat) : Int))).run Tryd.prog w = .ok (.agg #[.int .i32 (spA 10), .int .i32 (spB 10), .int .i64 (spC 10)]) w := by kernel_rfl
  have i11 : (Instr.index 68 (.agg spanCells) (.int .i64 ((11 : Nat) : Int))).run Tryd.prog w = .ok (.agg #[.int .i32 (spA 11), .int .i32 (spB 11), .int .i64 (spC 11)]) w := by kernel_rfl
  have h : k = 0 ∨ k = 1 ∨ k = 2 ∨ k = 3 ∨ k = 4 ∨ k = 5 ∨ k = 6 ∨ k = 7 ∨ k = 8 ∨ k = 9 ∨ k = 10 ∨ k = 11 := by omega
  rcases h with rfl | rfl | rfl | rfl | rfl | rfl | rfl | rfl | rfl | rfl | rfl | rfl
  · exact i0
  · exact i1
  · exact i2
  · exact i3
  · exact i4
  · exact i5
  · exact i6
  · exact i7
  · exact i8
  · exact i9
  · exact i10
  · exact i11

set_option maxHeartbeats 1000000 in
theorem of_any (r : Int) (w : World) (hT : Tabs w) :
    Calls Tryd.prog 35 #[.int .i32 r] w fun e w' => e = .returned (.int .i64 (clsOf r)) ∧ Below w.heap.size w w' := by
  obtain ⟨t, fr, hg⟩ := hT.cls
  go_enter Tryd.func35, Tryd.ntmps35
  go_wp2_with (refine wpList_load_row rfl 68 _ rfl 0 rfl t spanCells fr _ hg Tryd.underlying68 rfl (by kernel_rfl) ?_)
  go_loopw [6] (fun i wr => ∃ k : Nat, k ≤ 12 ∧ i = .int .i64 k ∧ Below w.heap.size w wr ∧ Hid (clsOf r = scan (spans.drop k) r)) (fun i _ => 12 - (intOf i).toNat)
  case atStart => exact ⟨0, by omega, rfl, Below.refl _ _, rfl⟩
  case round =>
    obtain ⟨k, hk, rfl, hb, H⟩ := hrel
    have hsz := hb.size
    by_cases hlt : k < 12
    · have hix := index_span k hlt
      have hsp := sp_bd k
      have H1 := scan_drop k hlt r
      have H2 : Hid (clsOf r = if spA k ≤ r ∧ r ≤ spB k then spC k else scan (spans.drop (k + 1)) r) := by rw [← H1]; exact H.out
      clear H1
      go_wp2
      · go_returns
        exact ⟨ret_int (by rw [H2.out, if_pos (by omega)]), by go_grown⟩
      all_goals
        go_roundw
        case rel => exact ⟨k + 1, by omega, by go_num, by go_grown, by rw [H2.out, if_neg (by omega)]; rfl⟩
        case measure => simp [intOf]; omega
    · obtain rfl : k = 12 := by omega
      go_wp2
      go_returns
      exact ⟨ret_int (by rw [H.out]; rfl), hb⟩

set_option maxHeartbeats 400000 in
theorem valid_any (s : ByteArray) (w : World) (hT : Tabs w) :
    Calls Tryd.prog 20 #[.string s] w fun e w' => e = .returned (.bool (validL s.data.toList)) ∧ Below w.heap.size w w' := by
  have hp := piece_any s w hT
  have HV := Lib.hid (valid_eq s)
  obtain ⟨r, hr⟩ : ∃ r, (Lib.decodeGo s).1 = r := ⟨_, rfl⟩
  obtain ⟨n, hn⟩ : ∃ n, (Lib.decodeGo s).2 = n := ⟨_, rfl⟩
  obtain ⟨k, hk⟩ : ∃ k, okL s.data.toList = k := ⟨_, rfl⟩
  rw [hr, hn, hk] at hp
  rw [hn, hk] at HV
  clear hr hn hk
  go_enter Tryd.func20, Tryd.ntmps20
  go_wp2_with (go_at_call 34; refine hp.mono ?_; rintro e w1 ⟨rfl, hb⟩)
  all_goals go_returns
  all_goals refine ⟨ret_bool ?_, hb⟩
  all_goals rw [HV.out]
  all_goals go_light
  all_goals rw [Bool.eq_iff_iff]
  all_goals simp [*]
  all_goals omega
theorem control_any (r : Int) (w : World) :
    Calls Tryd.prog 38 #[.int .i32 r] w fun e w' => e = .returned (.bool (ctlB r)) ∧ w = w' := by
  go_enter Tryd.func38, Tryd.ntmps38
  go_wp2
  all_goals go_returns
  all_goals refine ⟨ret_bool ?_, rfl⟩
  all_goals go_light
  all_goals unfold ctlB
  all_goals rw [Bool.eq_iff_iff]
  all_goals simp
  all_goals omega

theorem hexd_eq (k : Nat) (hk : k < 16) : ((⟨#[48, 49, 50, 51, 52, 53, 54, 55, 56, 57, 97, 98, 99, 100, 101, 102]⟩ : ByteArray).extract k (k + 1)).data.toList = [hexd k] := by
  have h : k = 0 ∨ k = 1 ∨ k = 2 ∨ k = 3 ∨ k = 4 ∨ k = 5 ∨ k = 6 ∨ k = 7 ∨ k = 8 ∨ k = 9 ∨ k = 10 ∨ k = 11 ∨ k = 12 ∨ k = 13 ∨ k = 14 ∨ k = 15 := by omega
  rcases h with rfl | rfl | rfl | rfl | rfl | rfl | rfl | rfl | rfl | rfl | rfl | rfl | rfl | rfl | rfl | rfl <;> rfl
theorem hexadecimal_any (c : UInt8) (w : World) :
    Calls Tryd.prog 39 #[.int .u8 c.toNat] w fun e w' => e = .returned (.string ⟨(hexL c).toArray⟩) ∧ Below w.heap.size w w' := by
  have hc := c.toNat_lt
  go_enter Tryd.func39, Tryd.ntmps39
  go_wp2
  go_quiet (fail)
  go_wp2
  go_returns
  refine ⟨ret_str ?_, by exact below_drewN (Below.refl _ _) _⟩
  go_light
  rw [Joins.data_append, Joins.data_append, hexd_eq _ (by omega), hexd_eq _ (by omega)]
  rfl
set_option maxHeartbeats 400000 in
theorem class_any (s : ByteArray) (w : World) (hT : Tabs w) :
    Calls Tryd.prog 13 #[.string s] w fun e w' => e = .returned (.int .i64 (classL s.data.toList)) ∧ Below w.heap.size w w' := by
  obtain ⟨v, hv⟩ : ∃ v, validL s.data.toList = v := ⟨_, rfl⟩
  have hp := valid_any s w hT
  rw [hv] at hp
  cases v
  · have HC : Hid (classL s.data.toList = 0) := by unfold classL; rw [hv]; rfl
    clear hv
    go_enter Tryd.func13, Tryd.ntmps13
    go_wp2_with (go_at_call 20; refine hp.mono ?_; rintro e w1 ⟨rfl, hb⟩)
    go_returns
    exact ⟨ret_int (by rw [HC.out]), hb⟩
  · have HC : Hid (classL s.data.toList = clsOf (Lib.decodeGo s).1) := by unfold classL; rw [hv, decode_valid hv]; rfl
    have hp2 : ∀ w', Tabs w' → _ := fun w' h => piece_any s w' h
    obtain ⟨r, hr⟩ : ∃ r, (Lib.decodeGo s).1 = r := ⟨_, rfl⟩
    obtain ⟨n, hn⟩ : ∃ n, (Lib.decodeGo s).2 = n := ⟨_, rfl⟩
    simp only [hr, hn] at hp2 HC
    have Hp2 := Lib.hid hp2
    clear hv hr hn hp2
    go_enter Tryd.func13, Tryd.ntmps13
    go_wp2_with (first | (go_at_call 20; refine hp.mono ?_; rintro e w1 ⟨rfl, hb1⟩) | (go_at_call 34; refine (Hp2.out _ (hT.below hb1)).mono ?_; rintro e w2 ⟨rfl, hb2⟩) | (go_at_call 35; refine (of_any _ _ ((hT.below hb1).below hb2)).mono ?_; rintro e w3 ⟨rfl, hb3⟩))
    go_returns
    exact ⟨ret_int (by rw [HC.out]), (hb1.trans (hb2.mono hb1.size)).trans (hb3.mono (Nat.le_trans hb1.size hb2.size))⟩
end Go.Proofs.YtbpfbceagdikoaaDoor
