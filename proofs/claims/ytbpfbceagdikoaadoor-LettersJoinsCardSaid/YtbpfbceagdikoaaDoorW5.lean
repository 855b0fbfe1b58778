/- Walks of the reference of layer 1: Pieces, Valid, Split, Class. -/
import Derived.Test.YtbpfbceagdikoaaDoorW4
import Derived.Test.YtbpfbceagdikoaaDoorPt
namespace Go.Proofs.YtbpfbceagdikoaaDoor
open Go.RowKit
set_option linter.unusedVariables false

/-- The slice that Pieces returns. -/
def RowPost (w : World) (l : List Bs) (e : Ending) (w' : World) : Prop := ∃ A c, e = .returned (.slice A l.length c) ∧ l.length ≤ c ∧ RowAt w' A (l.map S) ∧ Below w.heap.size w w'

set_option maxHeartbeats 1000000 in
set_option maxRecDepth 100000 in
theorem pieces_any (s : ByteArray) (w : World) (hs : s.size ≤ 1000000000) :
    Calls Tryd.prog 22 #[.string s] w (RowPost w (pieces s.data.toList)) := by
  obtain ⟨i0, hi, hz0, hz1, hz2⟩ := info_parts strInfo
  go_enter Tryd.func22, Tryd.ntmps22
  go_wp2_with fail
  go_loopw [3, 4] (fun v i wr => ∃ (pos : Nat) (done : List Bs), i = .int .i64 pos ∧ Own w.heap.size 9 v (done.map S) wr ∧ Below w.heap.size w wr ∧ pos ≤ s.size ∧ done.length ≤ pos ∧ Hid (pieces s.data.toList = done ++ pieces (s.data.toList.drop pos))) (fun _ i _ => s.size - (intOf i).toNat)
  case atStart =>
    exact ⟨0, [], rfl, Own.nil _ _ _, Below.refl _ _, by omega, by simp, by simp [Hid]⟩
  case round =>
    obtain ⟨pos, done, rfl, hown, hb, hp, hd, H⟩ := hrel
    by_cases hlt : pos < s.size
    · have hpt := point_drop s.data.toList pos
      have hpn := psz_bd (s.data.toList.drop pos) (by simp; omega)
      have hst := pieces_step (s.data.toList.drop pos) (by simp; omega)
      have hc := fun W => point_any s pos W (by omega) (by omega)
      rw [hpt] at hc
      have hmx : psz (s.data.toList.drop pos) = max (point (s.data.toList.drop pos) 0).2 1 := rfl
      simp only [List.length_drop, ← Lib.size_eq] at hpn
      obtain ⟨n, hn⟩ : ∃ n, psz (s.data.toList.drop pos) = n := ⟨_, rfl⟩
      rw [hn] at hmx hpn hst
      obtain ⟨c, hcc⟩ : ∃ c, (point (s.data.toList.drop pos) 0).1 = c := ⟨_, rfl⟩
      obtain ⟨m, hm⟩ : ∃ m, (point (s.data.toList.drop pos) 0).2 = m := ⟨_, rfl⟩
      rw [hcc, hm] at hc
      rw [hm] at hmx
      have hlen : (done.map S).length = done.length := by simp
      have ml : (done.map S).length + 1 ≤ maxLen := by rw [hlen]; unfold maxLen; omega
      have mb : ((done.map S).length + 1) * 16 ≤ 140737488355328 := by rw [hlen]; omega
      have HS : Hid (Value.string (s.extract pos (pos + n)) = S ((s.data.toList.drop pos).take n)) := by unfold Hid; rw [← S_data, ext_data, Nat.add_sub_cancel_left]
      have HST := Lib.hid hst
      have hmax : max (m : Int) 1 = (n : Int) := by omega
      clear hlen hn hpt hcc hm hst hmx
      go_wp2_with (first | (go_at_call 44; refine (hc _).mono ?_; rintro e w1 ⟨rfl, rfl⟩) | (at_builtin; refine wpList_app1 rfl (.tmp 19) (.tmp 26) 22 rfl w.heap.size i0 _ 16 Tryd.underlying22 hi hz0 hz1 hz2 rfl _ (done.map S) rfl hown 1 rfl rfl ml mb hb.size ?_; intro v' w2 hown4 hg hb2))
      clear hmax
      go_roundw
      case rel => exact ⟨pos + n, done ++ [(s.data.toList.drop pos).take n], by go_num, by rw [List.map_append]; rw [HS.out] at hown4; exact hown4, hb.trans hb2, by omega, by simp; omega, by unfold Hid; rw [H.out, HST.out]; simp⟩
      case measure => simp [intOf]; omega
    · go_wp2_with fail
      go_returns
      have hz : s.data.toList.drop pos = [] := List.drop_of_length_le (by rw [← Lib.size_eq]; omega)
      have hpz : pieces s.data.toList = done := by rw [H.out, hz]; simp [pieces, pcs]
      obtain ⟨A, c, hv, hc, hr⟩ := hown.row.to (n := done.length) (by simp)
      exact ⟨A, c, by rw [hpz, ← hv]; rfl, by rw [hpz]; exact hc, by rw [hpz]; exact hr, hb⟩

set_option maxHeartbeats 400000 in
theorem rvalid_any (s : ByteArray) (w : World) (hs : s.size ≤ 1000000000000) :
    Calls Tryd.prog 21 #[.string s] w fun e w' => e = .returned (.bool (validL s.data.toList)) ∧ w = w' := by
  have hc := point_any s 0 w (by omega) (by omega)
  have HV : Hid (validL s.data.toList = (decide (0 < (point s.data.toList 0).2) && decide ((point s.data.toList 0).2 = s.size))) := by unfold Hid validL okL; rw [← Lib.size_eq]
  obtain ⟨c, hcc⟩ : ∃ c, (point s.data.toList 0).1 = c := ⟨_, rfl⟩
  obtain ⟨m, hm⟩ : ∃ m, (point s.data.toList 0).2 = m := ⟨_, rfl⟩
  rw [hcc, hm] at hc
  rw [hm] at HV
  clear hcc hm
  go_enter Tryd.func21, Tryd.ntmps21
  go_wp2_with (first | (go_at_call 44; refine hc.mono ?_; rintro e w1 ⟨rfl, rfl⟩))
  all_goals go_returns
  all_goals refine ⟨ret_bool ?_, rfl⟩
  all_goals rw [HV.out]
  all_goals go_light
  all_goals rw [Bool.eq_iff_iff]
  all_goals simp [*]
  all_goals omega

set_option maxHeartbeats 400000 in
theorem within_any (n a b : Int) (w : World) :
    Calls Tryd.prog 45 #[.int .i64 n, .int .i64 a, .int .i64 b] w fun e w' => e = .returned (.bool (decide (a ≤ n ∧ n ≤ b))) ∧ w = w' := by
  go_enter Tryd.func45, Tryd.ntmps45
  go_wp2
  all_goals go_returns
  all_goals refine ⟨ret_bool ?_, rfl⟩
  all_goals go_light
  all_goals rw [Bool.eq_iff_iff]
  all_goals simp
  all_goals omega

def withinB (n a b : Int) : Bool := decide (a ≤ n ∧ n ≤ b)
theorem withinB_iff (n a b : Int) : withinB n a b = true ↔ a ≤ n ∧ n ≤ b := by simp [withinB]
theorem withinB_false (n a b : Int) : withinB n a b = false ↔ ¬ (a ≤ n ∧ n ≤ b) := by simp [withinB]

set_option maxHeartbeats 4000000 in
set_option maxRecDepth 100000 in
theorem rclass_any (s : ByteArray) (w : World) (hs : s.size ≤ 1000000000000) :
    Calls Tryd.prog 23 #[.string s] w fun e w' => e = .returned (.int .i64 (classL s.data.toList)) ∧ w = w' := by
  have hc := point_any s 0 w (by omega) (by omega)
  have hv := rvalid_any s w (by omega)
  have hwi : ∀ a b n w, Calls Tryd.prog 45 #[.int .i64 n, .int .i64 a, .int .i64 b] w fun e w' => e = .returned (.bool (withinB n a b)) ∧ w = w' := fun a b n w => within_any n a b w
  have HC : Hid (classL s.data.toList = if validL s.data.toList = true then clsOf (point s.data.toList 0).1 else 0) := rfl
  obtain ⟨c, hcc⟩ : ∃ c, (point s.data.toList 0).1 = c := ⟨_, rfl⟩
  obtain ⟨m, hm⟩ : ∃ m, (point s.data.toList 0).2 = m := ⟨_, rfl⟩
  obtain ⟨k, hk⟩ : ∃ k, validL s.data.toList = k := ⟨_, rfl⟩
  rw [hcc, hm] at hc
  rw [hk] at hv
  rw [hcc, hk] at HC
  clear hcc hm hk
  cases k
  · go_enter Tryd.func23, Tryd.ntmps23
    go_wp2_with (first | (go_at_call 44; refine hc.mono ?_; rintro e w1 ⟨rfl, rfl⟩) | (go_at_call 21; refine hv.mono ?_; rintro e w1 ⟨rfl, rfl⟩))
    go_returns
    exact ⟨ret_int (by rw [HC.out]; rfl), rfl⟩
  · have HC2 : Hid (classL s.data.toList = clsOf c) := by rw [Hid, HC.out]; rfl
    clear HC
    go_enter Tryd.func23, Tryd.ntmps23
    go_wp2_with (first | (go_at_call 44; refine hc.mono ?_; rintro e w1 ⟨rfl, rfl⟩) | (go_at_call 21; refine hv.mono ?_; rintro e w1 ⟨rfl, rfl⟩) | (go_at_call 45; refine (hwi _ _ _ _).mono ?_; rintro e w1 ⟨rfl, rfl⟩))
    all_goals go_returns
    all_goals refine ⟨ret_int ?_, rfl⟩
    all_goals rw [HC2.out]
    all_goals go_light
    all_goals try simp only [withinB_iff, withinB_false, beq_iff_eq, beq_eq_false_iff_ne, ne_eq] at *
    all_goals unfold clsOf
    all_goals simp only [spans, scan]
    all_goals repeat (first | rw [if_pos (by omega)] | rw [if_neg (by omega)])
end Go.Proofs.YtbpfbceagdikoaaDoor
