/- Walks of the reference of layer 1: latin, Control, Unit, Lower, Upper, Quote. -/
import Derived.Test.YtbpfbceagdikoaaDoorW6
namespace Go.Proofs.YtbpfbceagdikoaaDoor
open Go.RowKit
set_option linter.unusedVariables false

theorem byteInfo : (Tryd.prog.info? 5).map (fun i => (i.zero, i.size, i.bytes)) = some (some (.int .u8 0), 1, 1) := by kernel_rfl

/-- string([]byte{..}) of bytes that have just been laid -/
theorem conv_lit (l : Bs) (w : World) : (convert 42 9 (.slice (some ⟨w.heap.size, 0, none⟩) l.length l.length)).run Tryd.prog (w.alloc (.cells (Lib.byteCells l).toArray 5)) = .ok (.string ⟨l.toArray⟩) (w.alloc (.cells (Lib.byteCells l).toArray 5)) :=
  run_convert_bytes_back _ 42 9 5 ⟨w.heap.size, 0, none⟩ l.length l Tryd.underlying42 Tryd.underlying5 Tryd.underlying9 (Lib.bytes_of_row (heap_alloc_new w _) (List.take_of_length_le (by simp [Lib.byteCells])))

set_option maxHeartbeats 400000 in
set_option maxRecDepth 100000 in
theorem latin_any (p : Nat) (hp : p ≤ 255) (w : World) :
    Calls Tryd.prog 48 #[.int .i64 p] w fun e w' => e = .returned (.string (Utf8.encode p)) ∧ Below w.heap.size w w' := by
  by_cases h : p < 128
  · have hc := fun w => conv_lit [UInt8.ofNat p] w
    have e1 : Lib.byteCells [UInt8.ofNat p] = [.int .u8 p] := by simp [Lib.byteCells]; omega
    have HE : Hid (Utf8.encode p = ⟨[UInt8.ofNat p].toArray⟩) := encode_lo p h
    simp only [e1] at hc
    have hc' : ∀ w : World, (convert 42 9 (.slice (some ⟨w.heap.size, 0, none⟩) 1 1)).run Tryd.prog (w.alloc (.cells #[.int .u8 p] 5)) = .ok (.string ⟨[UInt8.ofNat p].toArray⟩) (w.alloc (.cells #[.int .u8 p] 5)) := hc
    have hz : (p : Int) < 128 := by omega
    have hy : (0 : Int) ≤ (p : Int) := by omega
    clear hc e1 hp h
    generalize (p : Int) = p' at *
    go_enter Tryd.func48, Tryd.ntmps48
    go_wp2
    go_returns
    exact ⟨by rw [HE.out]; rfl, by go_grown⟩
  · have hc := fun w => conv_lit [UInt8.ofNat (192 + p / 64), UInt8.ofNat (128 + p % 64)] w
    have e1 : Lib.byteCells [UInt8.ofNat (192 + p / 64), UInt8.ofNat (128 + p % 64)] = [.int .u8 (192 + (p : Int) / 64), .int .u8 (128 + (p : Int) % 64)] := by simp [Lib.byteCells]; omega
    have HE : Hid (Utf8.encode p = ⟨[UInt8.ofNat (192 + p / 64), UInt8.ofNat (128 + p % 64)].toArray⟩) := encode_hi p (by omega) hp
    simp only [e1] at hc
    have hc' : ∀ w : World, (convert 42 9 (.slice (some ⟨w.heap.size, 0, none⟩) 2 2)).run Tryd.prog (w.alloc (.cells #[.int .u8 (192 + (p : Int) / 64), .int .u8 (128 + (p : Int) % 64)] 5)) = .ok (.string ⟨[UInt8.ofNat (192 + p / 64), UInt8.ofNat (128 + p % 64)].toArray⟩) (w.alloc (.cells #[.int .u8 (192 + (p : Int) / 64), .int .u8 (128 + (p : Int) % 64)] 5)) := hc
    have hz : (128 : Int) ≤ (p : Int) := by omega
    have hy : (p : Int) ≤ 255 := by omega
    generalize UInt8.ofNat (192 + p / 64) = x at HE hc'
    generalize UInt8.ofNat (128 + p % 64) = y at HE hc'
    clear hc e1 hp h
    generalize (p : Int) = p' at *
    go_enter Tryd.func48, Tryd.ntmps48
    go_wp2
    go_returns
    exact ⟨by rw [HE.out]; rfl, by go_grown⟩

theorem latin_int (P : Int) (h0 : 0 ≤ P) (h1 : P ≤ 255) (w : World) :
    Calls Tryd.prog 48 #[.int .i64 P] w fun e w' => e = .returned (.string (Utf8.encode P)) ∧ Below w.heap.size w w' := by
  obtain ⟨p, rfl⟩ := Int.eq_ofNat_of_zero_le h0
  exact latin_any p (by omega) w

set_option maxHeartbeats 400000 in
theorem rcontrol_any (s : ByteArray) (w : World) (hs : s.size ≤ 1000000000000) :
    Calls Tryd.prog 60 #[.string s] w fun e w' => e = .returned (.bool (okL s.data.toList && ctlB (point s.data.toList 0).1)) ∧ w = w' := by
  have hc := point_any s 0 w (by omega) (by omega)
  have HV : Hid (okL s.data.toList = decide (0 < (point s.data.toList 0).2)) := rfl
  obtain ⟨c, hcc⟩ : ∃ c, (point s.data.toList 0).1 = c := ⟨_, rfl⟩
  obtain ⟨m, hm⟩ : ∃ m, (point s.data.toList 0).2 = m := ⟨_, rfl⟩
  rw [hcc, hm] at hc
  rw [hm] at HV
  rw [hcc]
  clear hcc hm
  go_enter Tryd.func60, Tryd.ntmps60
  go_wp2_with (first | (go_at_call 44; refine hc.mono ?_; rintro e w1 ⟨rfl, rfl⟩))
  all_goals go_returns
  all_goals refine ⟨ret_bool ?_, rfl⟩
  all_goals rw [HV.out]
  all_goals go_light
  all_goals unfold ctlB
  all_goals rw [Bool.eq_iff_iff]
  all_goals simp [*]
  all_goals omega

set_option maxHeartbeats 1000000 in
set_option maxRecDepth 100000 in
theorem runit_any (s : ByteArray) (w : World) (hs : s.size ≤ 1000000000000) (h0 : 0 < s.size) :
    Calls Tryd.prog 50 #[.string s] w fun e w' => e = .returned (.string ⟨(unitP s.data.toList).toArray⟩) ∧ Below w.heap.size w w' := by
  have hcl := rclass_any s w (by omega)
  have hct := rcontrol_any s w (by omega)
  have hd := byte0 s h0
  have hu := unitP_eq s.data.toList
  rw [← hd] at hu
  obtain ⟨v, hv⟩ : ∃ v, classL s.data.toList = v := ⟨_, rfl⟩
  obtain ⟨k, hk⟩ : ∃ k, (okL s.data.toList && ctlB (point s.data.toList 0).1) = k := ⟨_, rfl⟩
  rw [hv] at hcl
  rw [hk] at hct
  rw [hv, hk] at hu
  have HU := Lib.hid hu
  clear hv hk hu hd
  by_cases h1 : v = 0 ∨ k = true
  · have HU2 : Hid (unitP s.data.toList = hexL s[0]) := by rw [Hid, HU.out, if_pos h1]
    have hx0 := s[0].toNat_lt
    have hxe : hexL s[0] = ([37, 120] : Bs) ++ [hexd (s[0].toNat / 16)] ++ [hexd (s[0].toNat % 16)] := rfl
    have hx1 := hexd_eq (s[0].toNat / 16) (by omega)
    have hx2 := hexd_eq (s[0].toNat % 16) (by omega)
    rw [← hx1, ← hx2] at hxe
    have HX := Lib.hid hxe
    clear hxe hx1 hx2 HU
    rcases h1 with rfl | rfl
    all_goals
      go_enter Tryd.func50, Tryd.ntmps50
      go_wp2_with (first | (go_at_call 23; refine hcl.mono ?_; rintro e w1 ⟨rfl, rfl⟩) | (go_at_call 60; refine hct.mono ?_; rintro e w1 ⟨rfl, rfl⟩))
      all_goals
        go_quiet (fail)
        go_wp2
        go_returns
        refine ⟨?_, by exact below_drewN (Below.refl _ _) _⟩
        rw [HU2.out, HX.out]
        exact ret_str (by rw [Joins.data_append, Joins.data_append])
  · obtain ⟨hv0, rfl⟩ : v ≠ 0 ∧ k = false := by simpa using h1
    have e0 : (v == 0) = false := by simp [hv0]
    by_cases h4 : v = 4 ∨ v = 5
    · have HU2 : Hid (unitP s.data.toList = 37 :: s.data.toList) := by rw [Hid, HU.out, if_neg h1, if_pos h4]
      clear HU h1
      rcases h4 with rfl | rfl
      all_goals
        go_enter Tryd.func50, Tryd.ntmps50
        go_wp2_with (first | (go_at_call 23; refine hcl.mono ?_; rintro e w1 ⟨rfl, rfl⟩) | (go_at_call 60; refine hct.mono ?_; rintro e w1 ⟨rfl, rfl⟩))
        go_returns
        exact ⟨by rw [HU2.out]; exact ret_str (by rw [Joins.data_append]; rfl), Below.refl _ _⟩
    · have HU2 : Hid (unitP s.data.toList = s.data.toList) := by rw [Hid, HU.out, if_neg h1, if_neg h4]
      have n4 : (v == 4) = false := by simp; omega
      have n5 : (v == 5) = false := by simp; omega
      clear HU h1 h4 hv0
      go_enter Tryd.func50, Tryd.ntmps50
      go_wp2_with (first | (go_at_call 23; refine hcl.mono ?_; rintro e w1 ⟨rfl, rfl⟩) | (go_at_call 60; refine hct.mono ?_; rintro e w1 ⟨rfl, rfl⟩))
      go_returns
      exact ⟨by rw [HU2.out]; rfl, Below.refl _ _⟩
end Go.Proofs.YtbpfbceagdikoaaDoor
