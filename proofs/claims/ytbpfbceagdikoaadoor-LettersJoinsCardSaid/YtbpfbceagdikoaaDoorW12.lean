/- Walks of layer 1: Compare, Join, and the reference's. -/
import Derived.Test.YtbpfbceagdikoaaDoorW6
import Derived.Test.YtbpfbceagdikoaaDoorPlain2
namespace Go.Proofs.YtbpfbceagdikoaaDoor
open Go.RowKit
set_option linter.unusedVariables false

theorem compare_any (a b : ByteArray) (w : World) :
    Calls Tryd.prog 16 #[.string a, .string b] w fun e w' => e = .returned (.int .i64 (Lib.compareBytes a.data.toList b.data.toList)) ∧ Below w.heap.size w w' := by
  go_enter Tryd.func16, Tryd.ntmps16
  go_wp2_with (go_at_call 43; refine (Tryd.strings_Compare _ _ _).mono ?_; rintro e w1 ⟨rfl, rfl⟩)
  go_returns
  exact ⟨rfl, Below.refl _ _⟩

set_option maxHeartbeats 1000000 in
set_option maxRecDepth 100000 in
theorem rcompare_any (a b : ByteArray) (w : World) (ha : a.size ≤ 1000000000000) (hb0 : b.size ≤ 1000000000000) :
    Calls Tryd.prog 31 #[.string a, .string b] w fun e w' => e = .returned (.int .i64 (cmpL a.data.toList b.data.toList)) ∧ Below w.heap.size w w' := by
  go_enter Tryd.func31, Tryd.ntmps31
  go_wp2_with fail
  go_loopw [5] (fun i wr => ∃ (k : Nat), i = .int .i64 k ∧ k ≤ a.size ∧ k ≤ b.size ∧ Below w.heap.size w wr ∧ Hid (cmpL a.data.toList b.data.toList = cmpL (a.data.toList.drop k) (b.data.toList.drop k))) (fun i _ => a.size - (intOf i).toNat)
  case atStart => exact ⟨0, rfl, by omega, by omega, Below.refl _ _, rfl⟩
  case round =>
    obtain ⟨k, rfl, hk1, hk2, hb, H⟩ := hrel
    by_cases hka : k < a.size
    · by_cases hkb : k < b.size
      · have hx := a[k].toNat_lt
        have hy := b[k].toNat_lt
        have hst := Lib.hid (cmpL_step a b k hka hkb)
        rcases Nat.lt_trichotomy a[k].toNat b[k].toNat with hc | hc | hc
        · go_wp2_with fail
          go_quiet (fail)
          go_wp2_with fail
          go_returns
          exact ⟨ret_int (by rw [H.out, hst.out, if_pos hc]), below_drewN hb _⟩
        · have h1 : ¬ a[k].toNat < b[k].toNat := by omega
          have h2 : ¬ b[k].toNat < a[k].toNat := by omega
          have hst2 : Hid (cmpL (a.data.toList.drop k) (b.data.toList.drop k) = cmpL (a.data.toList.drop (k + 1)) (b.data.toList.drop (k + 1))) := by rw [Hid, hst.out, if_neg h1, if_neg h2]
          clear hc
          go_wp2_with fail
          go_quiet (fail)
          go_wp2_with fail
          go_quiet (fail)
          go_wp2_with fail
          go_roundw
          case rel => exact ⟨k + 1, by go_num, by omega, by omega, (by first | exact below_drewN hb _ | exact below_drewN (below_drewN hb _) _), by unfold Hid; rw [H.out, hst2.out]⟩
          case measure => simp [intOf]; omega
        · have h1 : ¬ a[k].toNat < b[k].toNat := by omega
          go_wp2_with fail
          go_quiet (fail)
          go_wp2_with fail
          go_quiet (fail)
          go_wp2_with fail
          go_returns
          exact ⟨ret_int (by rw [H.out, hst.out, if_neg h1, if_pos hc]), (by first | exact below_drewN hb _ | exact below_drewN (below_drewN hb _) _)⟩
      · have hd : b.data.toList.drop k = [] := List.drop_of_length_le (by rw [← Lib.size_eq]; omega)
        have hst : Hid (cmpL (a.data.toList.drop k) (b.data.toList.drop k) = 1) := by rw [Hid, hd, drop_byte a k hka]; rfl
        have h1 : b.size < a.size := by omega
        clear hd
        go_wp2_with fail
        go_returns
        exact ⟨ret_int (by rw [H.out, hst.out]), hb⟩
    · have hd : a.data.toList.drop k = [] := List.drop_of_length_le (by rw [← Lib.size_eq]; omega)
      by_cases hkb : k < b.size
      · have hst : Hid (cmpL (a.data.toList.drop k) (b.data.toList.drop k) = -1) := by rw [Hid, hd, drop_byte b k hkb]; rfl
        have h1 : a.size < b.size := by omega
        clear hd
        go_wp2_with fail
        go_returns
        exact ⟨ret_int (by rw [H.out, hst.out]), hb⟩
      · have hd2 : b.data.toList.drop k = [] := List.drop_of_length_le (by rw [← Lib.size_eq]; omega)
        have hst : Hid (cmpL (a.data.toList.drop k) (b.data.toList.drop k) = 0) := by rw [Hid, hd, hd2]; rfl
        have h1 : ¬ a.size < b.size := by omega
        have h2 : ¬ b.size < a.size := by omega
        clear hd hd2
        go_wp2_with fail
        go_returns
        exact ⟨ret_int (by rw [H.out, hst.out]), hb⟩
end Go.Proofs.YtbpfbceagdikoaaDoor
