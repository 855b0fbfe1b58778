/- decimal and fraction of the law of rat. -/
import Derived.Test.YtfgmjdhoeilhcaaGreatDoorQn
namespace Go.Proofs.YtfgmjdhoeilhcaaGreatDoor
open Go.RowKit
set_option linter.unusedVariables false

theorem dec_one : ∀ x, x < 10 → decT x = [UInt8.ofNat (48 + x)] := by decide
theorem dec_step (m : Nat) (h : m / 10 ≠ 0) : decT m = decT (m / 10) ++ [UInt8.ofNat (48 + m % 10)] := by
  have hx : m % 10 < 10 := Nat.mod_lt _ (by omega)
  have := decT_pad (V := m / 10) (x := m % 10) (k := 1) (by omega) (by omega) (by omega)
  rw [dec_one _ hx] at this
  rw [show m / 10 * 10 ^ 1 + m % 10 = m from by omega] at this
  simpa using this
theorem dec_step' (m : Nat) (h : m / 10 = 0) : decT m = [UInt8.ofNat (48 + m % 10)] := by
  rw [show m % 10 = m from by omega]
  exact dec_one m (by omega)
theorem conv_one (x : Nat) (h : x < 10) (W : World) : (convert 70 9 (.slice (some ⟨W.heap.size, 0, none⟩) 1 1)).run Tryz.prog (W.alloc (.cells #[.int .u8 (48 + (x : Int))] 5)) = .ok (.string ⟨[UInt8.ofNat (48 + x)].toArray⟩) (W.alloc (.cells #[.int .u8 (48 + (x : Int))] 5)) := by
  have hc := run_convert_bytes_back (P := Tryz.prog) _ 70 9 5 ⟨W.heap.size, 0, none⟩ [UInt8.ofNat (48 + x)].length [UInt8.ofNat (48 + x)] Tryz.underlying70 Tryz.underlying5 Tryz.underlying9 (Lib.bytes_of_row (heap_alloc_new W (.cells (Lib.byteCells [UInt8.ofNat (48 + x)]).toArray 5)) (List.take_of_length_le (by simp [Lib.byteCells])))
  have e1 : Lib.byteCells [UInt8.ofNat (48 + x)] = [.int .u8 (48 + (x : Int))] := by simp [Lib.byteCells]; omega
  rw [e1] at hc
  exact hc
set_option maxHeartbeats 2000000 in
set_option maxRecDepth 100000 in
theorem decimal_nn (N : Nat) (w : World) (hN : N < 5000000000000000000) :
    Calls Tryz.prog 61 #[.int .i64 (N : Int)] w fun e w' => e = .returned (.string ⟨(decT N).toArray⟩) ∧ Below w.heap.size w w' := by
  have hL := (decT_length N 19 (by omega)).2 (Nat.lt_of_lt_of_le hN (by decide))
  have n0 : decide ((N : Int) < 0) = false := decide_eq_false (by omega)
  have n0' : (0 : Int) ≤ (N : Int) := by omega
  go_enter Tryz.func61, Tryz.ntmps61
  go_wp2_with fail
  go_loopw [0, 3] (fun nv sv wr => ∃ (m : Nat) (t : ByteArray), nv = .int .i64 (m : Int) ∧ sv = .string t ∧ m ≤ N ∧ t.size ≤ 19 ∧ Hid (decT m ++ t.data.toList = decT N) ∧ Below w.heap.size w wr) (fun nv _ _ => (intOf nv).natAbs)
  case atStart => exact ⟨N, ⟨#[]⟩, rfl, rfl, by omega, by decide, by simp [Hid], Below.refl _ _⟩
  case round =>
    obtain ⟨m, t, rfl, rfl, hm, ht, HD, hB⟩ := hrel
    obtain ⟨x, hx⟩ : ∃ x, m % 10 = x := ⟨_, rfl⟩
    obtain ⟨q, hq⟩ : ∃ q, m / 10 = q := ⟨_, rfl⟩
    have hx10 : x < 10 := by omega
    have t1 : (m : Int).tmod 10 = (x : Int) := by rw [Int.tmod_eq_emod_of_nonneg (by omega)]; omega
    have t2 : (m : Int).tdiv 10 = (q : Int) := by rw [Int.tdiv_eq_ediv_of_nonneg (by omega)]; omega
    have hcv := conv_one x hx10
    have hB2 : Below w.heap.size w (wr.alloc (.cells #[.int .u8 (48 + (x : Int))] 5)) := hB.alloc hB.size _
    obtain ⟨Y, hY⟩ : ∃ Y : ByteArray, (⟨[UInt8.ofNat (48 + x)].toArray⟩ : ByteArray) = Y := ⟨_, rfl⟩
    have hYd : Y.data.toList = [UInt8.ofNat (48 + x)] := by rw [← hY]
    have hYs : Y.size = 1 := by rw [← hY]; rfl
    simp only [hY] at hcv
    have lim : ¬ 9223372036854775807 < Y.size + t.size := by omega
    have HS : Hid (q = 0 → (Y ++ t).data.toList = decT N) := fun h => by rw [Joins.data_append, hYd, ← HD.out, dec_step' m (by omega), hx]
    have HT : Hid (q ≠ 0 → decT q ++ (Y ++ t).data.toList = decT N) := fun h => by rw [Joins.data_append, hYd, ← HD.out, dec_step m (by omega), hx, hq, List.append_assoc]
    have x0 : decide ((x : Int) < 0) = false := decide_eq_false (by omega)
    have x0' : (0 : Int) ≤ (x : Int) := by omega
    by_cases hq0 : q = 0
    · have HQ := Lib.hid (HS.out hq0)
      have q0 : ((q : Int) == 0) = true := by rw [hq0]; rfl
      have q0' : (q : Int) = 0 := by omega
      have hE : Hid ((⟨(decT N).toArray⟩ : ByteArray) = (⟨#[]⟩ : ByteArray) ++ (Y ++ t)) := data_of (by rw [Joins.data_append, HQ.out]; rfl)
      have lim2 : ¬ 9223372036854775807 < (⟨#[45]⟩ : ByteArray).size + (Y.size + t.size) := by rw [show (⟨#[45]⟩ : ByteArray).size = 1 from rfl]; omega
      go_wp2_with fail
      go_returns
      exact ⟨by rw [hE.out]; rfl, hB2⟩
    · have HQ := Lib.hid (HT.out hq0)
      have q0 : ((q : Int) == 0) = false := beq_eq_false_iff_ne.2 (by omega)
      have q0' : ¬ (q : Int) = 0 := by omega
      have hlen : (Y ++ t).size ≤ 19 := by
        rw [Lib.size_eq]
        have h := congrArg List.length HQ.out
        rw [List.length_append] at h
        omega
      go_wp2_with fail
      go_roundw
      case rel => exact ⟨q, _, rfl, rfl, by omega, hlen, HQ, hB2⟩
      case measure => simp [intOf]; omega
set_option maxHeartbeats 2000000 in
set_option maxRecDepth 100000 in
theorem decimal_neg (N : Nat) (w : World) (hN : N < 5000000000000000000) (h0 : 0 < N) :
    Calls Tryz.prog 61 #[.int .i64 (-(N : Int))] w fun e w' => e = .returned (.string ⟨(45 :: decT N).toArray⟩) ∧ Below w.heap.size w w' := by
  have hL := (decT_length N 19 (by omega)).2 (Nat.lt_of_lt_of_le hN (by decide))
  have n0 : (-(N : Int)) < 0 := by omega
  go_enter Tryz.func61, Tryz.ntmps61
  go_wp2_with fail
  go_loopw [0, 3] (fun nv sv wr => ∃ (m : Nat) (t : ByteArray), nv = .int .i64 (-(m : Int)) ∧ sv = .string t ∧ m ≤ N ∧ t.size ≤ 19 ∧ Hid (decT m ++ t.data.toList = decT N) ∧ Below w.heap.size w wr) (fun nv _ _ => (intOf nv).natAbs)
  case atStart => exact ⟨N, ⟨#[]⟩, rfl, rfl, by omega, by decide, by simp [Hid], Below.refl _ _⟩
  case round =>
    obtain ⟨m, t, rfl, rfl, hm, ht, HD, hB⟩ := hrel
    obtain ⟨x, hx⟩ : ∃ x, m % 10 = x := ⟨_, rfl⟩
    obtain ⟨q, hq⟩ : ∃ q, m / 10 = q := ⟨_, rfl⟩
    have hx10 : x < 10 := by omega
    have t1 : (-(m : Int)).tmod 10 = (-(x : Int)) := by rw [Int.neg_tmod]; congr 1; rw [Int.tmod_eq_emod_of_nonneg (by omega)]; omega
    have t2 : (-(m : Int)).tdiv 10 = (-(q : Int)) := by rw [Int.neg_tdiv]; congr 1; rw [Int.tdiv_eq_ediv_of_nonneg (by omega)]; omega
    have hcv := conv_one x hx10
    have hB2 : Below w.heap.size w (wr.alloc (.cells #[.int .u8 (48 + (x : Int))] 5)) := hB.alloc hB.size _
    obtain ⟨Y, hY⟩ : ∃ Y : ByteArray, (⟨[UInt8.ofNat (48 + x)].toArray⟩ : ByteArray) = Y := ⟨_, rfl⟩
    have hYd : Y.data.toList = [UInt8.ofNat (48 + x)] := by rw [← hY]
    have hYs : Y.size = 1 := by rw [← hY]; rfl
    simp only [hY] at hcv
    have lim : ¬ 9223372036854775807 < Y.size + t.size := by omega
    have HS : Hid (q = 0 → (Y ++ t).data.toList = decT N) := fun h => by rw [Joins.data_append, hYd, ← HD.out, dec_step' m (by omega), hx]
    have HT : Hid (q ≠ 0 → decT q ++ (Y ++ t).data.toList = decT N) := fun h => by rw [Joins.data_append, hYd, ← HD.out, dec_step m (by omega), hx, hq, List.append_assoc]
    rcases Nat.eq_zero_or_pos x with hx0 | hx0
    · subst hx0
      rw [show (48 + ((0 : Nat) : Int)) = 48 from rfl] at hcv hB2
      by_cases hq0 : q = 0
      · have HQ := Lib.hid (HS.out hq0)
        have q0 : ((-(q : Int)) == 0) = true := by rw [hq0]; rfl
        have q0' : (-(q : Int)) = 0 := by omega
        have hE : Hid ((⟨(45 :: decT N).toArray⟩ : ByteArray) = (⟨#[45]⟩ : ByteArray) ++ (Y ++ t)) := data_of (by rw [Joins.data_append, HQ.out]; rfl)
        have lim2 : ¬ 9223372036854775807 < (⟨#[45]⟩ : ByteArray).size + (Y.size + t.size) := by rw [show (⟨#[45]⟩ : ByteArray).size = 1 from rfl]; omega
        go_wp2_with fail
        go_returns
        exact ⟨by rw [hE.out]; rfl, hB2⟩
      · have HQ := Lib.hid (HT.out hq0)
        have q0 : ((-(q : Int)) == 0) = false := beq_eq_false_iff_ne.2 (by omega)
        have q0' : ¬ (-(q : Int)) = 0 := by omega
        have hlen : (Y ++ t).size ≤ 19 := by
          rw [Lib.size_eq]
          have h := congrArg List.length HQ.out
          rw [List.length_append] at h
          omega
        go_wp2_with fail
        go_roundw
        case rel => exact ⟨q, _, rfl, rfl, by omega, hlen, HQ, hB2⟩
        case measure => simp [intOf]; omega
    · have x0 : (-(x : Int)) < 0 := by omega
      by_cases hq0 : q = 0
      · have HQ := Lib.hid (HS.out hq0)
        have q0 : ((-(q : Int)) == 0) = true := by rw [hq0]; rfl
        have q0' : (-(q : Int)) = 0 := by omega
        have hE : Hid ((⟨(45 :: decT N).toArray⟩ : ByteArray) = (⟨#[45]⟩ : ByteArray) ++ (Y ++ t)) := data_of (by rw [Joins.data_append, HQ.out]; rfl)
        have lim2 : ¬ 9223372036854775807 < (⟨#[45]⟩ : ByteArray).size + (Y.size + t.size) := by rw [show (⟨#[45]⟩ : ByteArray).size = 1 from rfl]; omega
        go_wp2_with fail
        go_returns
        exact ⟨by rw [hE.out]; rfl, hB2⟩
      · have HQ := Lib.hid (HT.out hq0)
        have q0 : ((-(q : Int)) == 0) = false := beq_eq_false_iff_ne.2 (by omega)
        have q0' : ¬ (-(q : Int)) = 0 := by omega
        have hlen : (Y ++ t).size ≤ 19 := by
          rw [Lib.size_eq]
          have h := congrArg List.length HQ.out
          rw [List.length_append] at h
          omega
        go_wp2_with fail
        go_roundw
        case rel => exact ⟨q, _, rfl, rfl, by omega, hlen, HQ, hB2⟩
        case measure => simp [intOf]; omega
end Go.Proofs.YtfgmjdhoeilhcaaGreatDoor
