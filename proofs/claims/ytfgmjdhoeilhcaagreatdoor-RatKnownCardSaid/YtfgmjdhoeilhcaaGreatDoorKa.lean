/- Walks of the laws of rat: is, large, awake. -/
import Derived.Test.YtfgmjdhoeilhcaaGreatDoorPe
namespace Go.Proofs.YtfgmjdhoeilhcaaGreatDoor
open Go.RowKit
set_option linter.unusedVariables false

theorem strEqB {a b : ByteArray} : (a.toList == b.toList) = decide (a = b) := by
  by_cases h : a = b
  · subst h; rw [decide_eq_true rfl]; exact beq_self_eq_true _
  · rw [decide_eq_false h]
    apply beq_eq_false_iff_ne.2
    intro e
    rw [Lib.toList_data, Lib.toList_data] at e
    apply h
    cases a; cases b; simp at e; rw [e]
set_option maxHeartbeats 1000000 in
set_option maxRecDepth 100000 in
theorem is_any (a want : ByteArray) (c : Nat) (w : World) : Calls Tryz.prog 32 #[.string a, .int .i64 c, .string want] w fun e w' => e = .returned (.bool (decide (c = 0) && decide (a = want))) ∧ w = w' := by
  have hs := strEqB (a := a) (b := want)
  by_cases hc : c = 0
  · subst hc
    rw [decide_eq_true rfl, Bool.true_and]
    generalize decide (a = want) = ok at *
    go_enter Tryz.func32, Tryz.ntmps32
    go_wp2_with fail
    go_returns
    exact ⟨rfl, rfl⟩
  · have hcb : ((c : Int) == 0) = false := beq_eq_false_iff_ne.2 (by omega)
    have hci : ¬ (c : Int) = 0 := by omega
    rw [decide_eq_false hc, Bool.false_and]
    clear hc
    go_enter Tryz.func32, Tryz.ntmps32
    go_wp2_with fail
    go_returns
    exact ⟨rfl, rfl⟩
/-- is one of these strings long? -/
def longB (l : List ByteArray) : Bool := l.any fun s => decide (1200 < s.size)
set_option maxHeartbeats 1000000 in
set_option maxRecDepth 100000 in
theorem large_any (b c : Nat) (l : List ByteArray) (w : World) (hc : ∀ j (h : j < l.length), w.cell? ⟨b, j, none⟩ = some (.string l[j])) (hl : l.length ≤ 100) :
    Calls Tryz.prog 10 #[.slice (some ⟨b, 0, none⟩) l.length c] w fun e w' => e = .returned (.bool (longB l)) ∧ w = w' := by
  have HC := Lib.hid hc
  clear hc
  go_enter Tryz.func10, Tryz.ntmps10
  go_wp2_with fail
  go_loopw [2, 3] (fun r i wr => ∃ (k : Nat), r = .bool false ∧ i = .int .i64 k ∧ k ≤ l.length ∧ w = wr ∧ Hid (longB (l.take k) = false)) (fun _ i _ => l.length - (intOf i).toNat)
  case atStart => exact ⟨0, rfl, rfl, by omega, rfl, by simp [Hid, longB]⟩
  case round =>
    obtain ⟨k, rfl, rfl, hk, rfl, HN⟩ := hrel
    by_cases hlt : k < l.length
    · have hcell := HC.out k hlt
      have HS : Hid (longB (l.take (k + 1)) = decide (1200 < (l[k]).size)) := by
        have h := HN.out
        unfold longB at h
        rw [Hid, List.take_succ_eq_append_getElem hlt]
        unfold longB
        rw [List.any_append, h]; simp
      have HF : Hid (longB (l.take (k + 1)) = true → longB l = true) := by
        intro h
        unfold longB at h ⊢
        rw [List.any_eq_true] at h ⊢
        obtain ⟨x, hx, h⟩ := h
        exact ⟨x, List.mem_of_mem_take hx, h⟩
      have k0 : (0 : Int) ≤ (k : Int) := by omega
      have k1 : (k : Int) < (l.length : Int) := by omega
      generalize l[k] = s at hcell HS
      by_cases hs : 1200 < s.size
      · have HT := Lib.hid (HF.out (by rw [HS.out, decide_eq_true hs]))
        have s1 : (1200 : Int) < (s.size : Int) := by omega
        clear hs
        go_wp2_with fail
        go_returns
        exact ⟨by rw [HT.out]; rfl, rfl⟩
      · have HS2 : Hid (longB (l.take (k + 1)) = false) := by rw [Hid, HS.out, decide_eq_false hs]
        have s1 : decide ((1200 : Int) < (s.size : Int)) = false := decide_eq_false (by omega)
        have s2 : (s.size : Int) ≤ 1200 := by omega
        clear hs
        go_wp2_with fail
        go_roundw
        case rel => exact ⟨k + 1, rfl, by go_num, by omega, trivial, HS2⟩
        case measure => simp [intOf]; omega
    · obtain rfl : k = l.length := by omega
      have HT : Hid (longB l = false) := by have h := HN.out; rwa [List.take_length] at h
      go_wp2_with fail
      go_returns
      exact ⟨by rw [HT.out]; rfl, rfl⟩
theorem ex1 : ratAdd [49, 47, 50] [49, 47, 51] = ([53, 47, 54], 0) := by decide +kernel
theorem ex2 : ratDiv [49, 47, 50] [45, 49, 47, 52] = ([45, 50], 0) := by decide +kernel
theorem ex3 : parseR [45, 49, 46, 53, 48] = ([45, 51, 47, 50], 0) := by decide +kernel
theorem ex4 : ratMake true [54] [52] = ([45, 51, 47, 50], 0) := by decide +kernel
theorem ex5 : ratP [45, 51, 47, 52] = some (true, [51], [52]) := by decide +kernel
theorem ex6 : (ratV [45, 51, 47, 52]).isSome = true := by decide +kernel
theorem ex7 : (ratV [54, 47, 50]).isSome = false := by decide +kernel
theorem ex8 : ratCmp [49, 47, 51] [49, 47, 50] = -1 := by decide +kernel
end Go.Proofs.YtfgmjdhoeilhcaaGreatDoor
