/- Walks: FormatUint at base 10. -/
import Derived.Test.YtfgmjdhoeilhcaaGreatDoorRz
import Derived.Lib.AppendIntMem
namespace Go.Proofs.YtfgmjdhoeilhcaaGreatDoor
open Go.RowKit Go.Sort Go.Lib
set_option linter.unusedVariables false

theorem decDigits_decT (u : Nat) : Lib.decDigits u = decT u := by
  induction u using Nat.strongRecOn with
  | ind u ih =>
    rw [Lib.decDigits]
    by_cases h : u < 10
    · rw [dif_pos h]
      by_cases h0 : u = 0
      · subst h0; rfl
      · rw [decT_pos h0, digL_step (by omega) h0, Nat.mod_eq_of_lt h, Nat.div_eq_of_lt h]; rfl
    · rw [dif_neg h, ih (u / 10) (by omega), decT_pos (show u ≠ 0 by omega), decT_pos (show u / 10 ≠ 0 by omega), digL_step (n := u) (by omega) (by omega), List.reverse_cons, List.map_append]; rfl

set_option maxHeartbeats 1000000 in
set_option maxRecDepth 100000 in
theorem ifmt_any (u : Nat) (hu : u < 1000000000) (w : World) (htab : Lib.TabIs Tryz.prog w "internal/strconv.uint64pow10" .u64 Lib.pow10Tab) :
    Calls Tryz.prog 131 #[.int .u64 u, .int .i64 10] w fun e w' => e = .returned (.string ⟨(decT u).toArray⟩) ∧ Below w.heap.size w w' := by
  by_cases hs : u < 100
  · have hsm := fun W => Tryz.internal_strconv_small u hs W
    rw [decDigits_decT] at hsm
    go_enter Tryz.func131, Tryz.ntmps131
    go_wp2_with (go_at_call 139; refine (hsm _).mono ?_; rintro e wx ⟨rfl, rfl⟩)
    go_returns
    exact ⟨rfl, Below.refl _ _⟩
  · have hu1 : 1 ≤ u := by omega
    have hu64 : u < 18446744073709551616 := by omega
    have hnd20 : Lib.nDigits u ≤ 20 := by have := Lib.numDigits_eq u hu1 hu64; split at this <;> omega
    have hal : Tryz.prog.arrayLen 131 = 24 := by simp [Program.arrayLen, Tryz.underlying131]
    have hnum := fun W h => Tryz.internal_strconv_numDigits u hu1 hu64 W h
    have hH0 := Lib.holds_zero0 w 131 (Lib.nDigits u) (by omega)
    have hfmt := Tryz.internal_strconv_formatBase10 w.heap.size 0 24 u (Array.replicate (Lib.nDigits u) 0) (w.alloc (.cells Lib.zeros24 131)) hH0 (by rw [Array.size_replicate]; exact Lib.lt_pow_nDigits u) hu64 (by rw [Array.size_replicate]; omega)
    rw [Array.size_replicate] at hfmt
    have HH0 := Lib.hid hH0
    have hdl := Lib.decDigits_length u
    have hnd1 : 1 ≤ Lib.nDigits u := by rw [← hdl, decDigits_decT]; exact List.length_pos_iff.2 (decT_ne u)
    have htab2 := Lib.tabIs_alloc htab (.cells Lib.zeros24 131)
    generalize hnd : Lib.nDigits u = nd at hnd20 hnum hfmt hdl hnd1
    have hsl : ∀ W, (Instr.sliceAt 131 (.pointer (some ⟨w.heap.size, 0, none⟩)) none (some (.int .i64 (nd : Int))) none).run Tryz.prog W = .ok (.slice (some ⟨w.heap.size, 0, none⟩) nd 24) W := fun W => by
      rw [run_sliceAt_array_h W 131 ⟨w.heap.size, 0, none⟩ (by simp [Program.arrayLen, Program.elem, Tryz.underlying131]) .i64 (nd : Int) (by omega) (by rw [hal]; omega)]
      go_simp
    have HND := Lib.hid hnd
    clear hH0 hal hnd
    go_enter Tryz.func131, Tryz.ntmps131
    go_wp2_with (first
      | (go_at_call 140; refine (hnum _ htab2).mono ?_; rintro e w' ⟨rfl, rfl⟩))
    refine hfmt.mono ?_
    rintro e w' ⟨rfl, k, v', dk, rfl, hF⟩
    have hcv : (convert 70 9 (.slice (some ⟨w.heap.size, 0, none⟩) nd 24)).run Tryz.prog ((putRow (fun (b : UInt8) => Value.int .u8 (b.toNat : Int)) (w.alloc (.cells Lib.zeros24 131)) w.heap.size 0 dk).drewN k) = .ok (.string ⟨(decT u).toArray⟩) ((putRow (fun (b : UInt8) => Value.int .u8 (b.toNat : Int)) (w.alloc (.cells Lib.zeros24 131)) w.heap.size 0 dk).drewN k) := by
      have hF' := hF
      rw [← HND.out] at hF'
      have h := run_convert_bytes_back (P := Tryz.prog) ((putRow (fun (b : UInt8) => Value.int .u8 (b.toNat : Int)) (w.alloc (.cells Lib.zeros24 131)) w.heap.size 0 dk).drewN k) 70 9 5 ⟨w.heap.size, 0, none⟩ 24 (Lib.decDigits u) Tryz.underlying70 Tryz.underlying5 Tryz.underlying9 (fun j hj => by
        rw [Lib.row_is_numeral hF' j hj, Lib.add_plain, World.cell?_drewN]
        exact cell?_putRow (fun (b : UInt8) => Value.int .u8 (b.toNat : Int)) _ w.heap.size 0 _ dk HH0.out (by rw [hF'.size, Array.size_replicate]) j (by rw [hF'.size]; rw [Lib.decDigits_length] at hj; exact hj))
      rw [hdl, decDigits_decT] at h
      exact h
    obtain ⟨os, eo⟩ := Lib.fin_at w (.cells Lib.zeros24 131) dk k 0
    have hbl : Below w.heap.size w ((putRow (fun (b : UInt8) => Value.int .u8 (b.toNat : Int)) (w.alloc (.cells Lib.zeros24 131)) w.heap.size 0 dk).drewN k) := by
      rw [eo]; exact Lib.below_grow _ _ (Nat.le_refl _) _ _
    clear hF eo
    generalize (putRow (fun (b : UInt8) => Value.int .u8 (b.toNat : Int)) (w.alloc (.cells Lib.zeros24 131)) w.heap.size 0 dk).drewN k = w2 at hcv hbl ⊢
    go_wp2_with fail
    go_returns
    exact ⟨rfl, hbl⟩
set_option maxHeartbeats 1000000 in
set_option maxRecDepth 100000 in
theorem fmt_any (u : Nat) (hu : u < 1000000000) (w : World) (htab : Lib.TabIs Tryz.prog w "internal/strconv.uint64pow10" .u64 Lib.pow10Tab) :
    Calls Tryz.prog 114 #[.int .u64 u, .int .i64 10] w fun e w' => e = .returned (.string ⟨(decT u).toArray⟩) ∧ Below w.heap.size w w' := by
  have hi := ifmt_any u hu w htab
  go_enter Tryz.func114, Tryz.ntmps114
  go_wp2_with (first | (go_at_call 131; refine hi.mono ?_; rintro e w' ⟨rfl, hb⟩))
  go_returns
  exact ⟨rfl, hb⟩
end Go.Proofs.YtfgmjdhoeilhcaaGreatDoor
