/- Walks of the reference of layer 1: Split, SameList. -/
import Derived.Test.YtbpfbceagdikoaaDoorW5
namespace Go.Proofs.YtbpfbceagdikoaaDoor
open Go.RowKit
set_option linter.unusedVariables false

theorem getS {l : List Bs} {k : Nat} (h : k < l.length) : (l.map S)[k]? = some (S l[k]) := by simp [h]

set_option maxHeartbeats 1000000 in
set_option maxRecDepth 100000 in
theorem rsplit_any (s : ByteArray) (w : World) (hs : s.size ≤ 16384) :
    Calls Tryd.prog 18 #[.string s] w (SplitPost w (splitL s.data.toList) (splitAt s.data.toList) (splitE s.data.toList)) := by
  have hs' : s.data.toList.length ≤ 16384 := by rw [← Lib.size_eq]; exact hs
  have hpc := pieces_any s w (by omega)
  have hfl := Lib.hid (pieces_flat s.data.toList)
  have hpl := pieces_len s.data.toList
  have HS : Hid (splitR s.data.toList = match strayAt (pieces s.data.toList) 0 with | some i => ([], i, 3) | none => (pieces s.data.toList, 0, 0)) := by unfold Hid splitR; rw [if_neg (by omega)]; rfl
  have HD : Hid (splitL s.data.toList = (splitR s.data.toList).1 ∧ splitAt s.data.toList = (splitR s.data.toList).2.1 ∧ splitE s.data.toList = (splitR s.data.toList).2.2) := ⟨rfl, rfl, rfl⟩
  generalize hgl : pieces s.data.toList = l at hpc hfl HS hpl
  have hfl2 : l.flatten.length ≤ 16384 := by rw [hfl.out]; exact hs'
  have HG := Lib.hid hgl
  clear hgl
  go_enter Tryd.func18, Tryd.ntmps18
  go_wp2_with (first | (go_at_call 22; refine hpc.mono ?_; rintro e w1 ⟨A, cap, rfl, hcap, hrow, hb1⟩))
  go_loopw [6, 7] (fun f i wr => ∃ (k : Nat), i = .int .i64 k ∧ k ≤ l.length ∧ w1 = wr ∧ Hid ((∀ p ∈ l.take k, validL p = true)) ∧ f = .int .i64 (offK l k)) (fun _ i _ => l.length - (intOf i).toNat)
  case atStart => exact ⟨0, rfl, by omega, rfl, by simp [Hid], rfl⟩
  case round =>
    obtain ⟨k, rfl, hk, rfl, H, rfl⟩ := hrel
    by_cases hlt : k < l.length
    · obtain ⟨b, o, rfl, hbl, hcell⟩ := hrow (by intro e; rw [List.map_eq_nil_iff] at e; rw [e] at hlt; simp at hlt)
      have hc : w1.cell? ⟨b, o + k, none⟩ = some (.string ⟨l[k].toArray⟩) := hcell k _ (getS hlt)
      have Hcell := Lib.hid hcell
      clear hcell
      have hfk := offK_le l (k + 1)
      have hfk1 := offK_succ l k hlt
      have hlk : (⟨l[k].toArray⟩ : ByteArray).size = l[k].length := by rw [Lib.size_eq]
      have hv := rvalid_any ⟨l[k].toArray⟩ w1 (by rw [hlk]; omega)
      have hlk2 : l[k].length ≤ 16384 := by omega
      have hfk2 : offK l k + l[k].length ≤ 16384 := by omega
      have HF := Lib.hid hfk1
      have HK := Lib.hid hlk
      clear hfk1 hfk hlk
      have hnew : validL l[k] = true → Hid (∀ p ∈ l.take (k + 1), validL p = true) := fun hh p hp => by
        rw [List.take_succ_eq_append_getElem hlt] at hp
        rcases List.mem_append.1 hp with hp | hp
        · exact H.out p hp
        · rw [List.mem_singleton.1 hp]; exact hh
      have hstr : validL l[k] = false → strayAt l 0 = some (offK l k) := fun hh => stray_some l k hlt H.out hh
      obtain ⟨vv, hvv⟩ : ∃ vv, validL l[k] = vv := ⟨_, rfl⟩
      have hv' : Calls Tryd.prog 21 #[.string ⟨l[k].toArray⟩] w1 fun e w' => e = .returned (.bool vv) ∧ w1 = w' := by rw [← hvv]; exact hv
      cases vv
      · have HX := Lib.hid (hstr hvv)
        clear hv hnew hstr hvv
        go_wp2_with (first | (go_at_call 21; refine hv'.mono ?_; rintro e w2 ⟨rfl, rfl⟩))
        go_returns
        have e := HS.out
        rw [HX.out] at e
        obtain ⟨d1, d2, d3⟩ := HD.out
        exact ⟨none, 0, by rw [d1, d2, d3, e]; rfl, by rw [d1, e]; exact Nat.le_refl _, by rw [d1, e]; exact RowAt.nil _ _, hb1⟩
      · have HX := Lib.hid (hnew hvv)
        clear hv hnew hstr hvv
        go_wp2_with (first | (go_at_call 21; refine hv'.mono ?_; rintro e w2 ⟨rfl, rfl⟩))
        go_round
        case rel => exact ⟨k + 1, by go_num, by omega, trivial, HX.out, by rw [HF.out]; go_num⟩
        case measure => simp [intOf]; omega
    · obtain rfl : k = l.length := by omega
      go_wp2_with fail
      go_returns
      have e := HS.out
      have hal : ∀ p ∈ l, validL p = true := by simpa using H.out
      rw [stray_none l 0 hal] at e
      obtain ⟨d1, d2, d3⟩ := HD.out
      exact ⟨A, cap, by rw [d1, d2, d3, e]; rfl, by rw [d1, e]; exact hcap, by rw [d1, e]; exact hrow, hb1⟩

set_option maxHeartbeats 1000000 in
set_option maxRecDepth 100000 in
theorem same_any (A B : Option Addr) (c d : Nat) (l m : List Bs) (w : World) (hA : RowAt w A (l.map S)) (hB : RowAt w B (m.map S)) (hl : l.length ≤ 1000000000) (hm : m.length ≤ 1000000000) :
    Calls Tryd.prog 19 #[.slice A l.length c, .slice B m.length d] w fun e w' => e = .returned (.bool (decide (l = m))) ∧ Below w.heap.size w w' := by
  by_cases hne : l.length = m.length
  · have hd : (((l.length : Nat) : Int) != ((m.length : Nat) : Int)) = false := by simp; omega
    have hm' : m.length ≤ l.length := by omega
    have hm2 : l.length ≤ m.length := by omega
    have Hne := Lib.hid hne
    clear hne
    go_enter Tryd.func19, Tryd.ntmps19
    go_wp2_with fail
    go_loopw [5] (fun i wr => ∃ (k : Nat), i = .int .i64 k ∧ k ≤ l.length ∧ Below w.heap.size w wr ∧ Hid (l.take k = m.take k)) (fun i _ => l.length - (intOf i).toNat)
    case atStart => exact ⟨0, rfl, by omega, Below.refl _ _, by simp [Hid]⟩
    case round =>
      obtain ⟨k, rfl, hk, hb, H⟩ := hrel
      by_cases hlt : k < l.length
      · have hA' := hA.below hb
        have hB' := hB.below hb
        obtain ⟨b, o, rfl, hbl, hcell⟩ := hA' (by intro e; rw [List.map_eq_nil_iff] at e; rw [e] at hlt; simp at hlt)
        have hltm : k < m.length := by omega
        obtain ⟨b', o', rfl, hbl', hcell'⟩ := hB' (by intro e; rw [List.map_eq_nil_iff] at e; rw [e] at hltm; simp at hltm)
        have hc : wr.cell? ⟨b, o + k, none⟩ = some (.string ⟨l[k].toArray⟩) := hcell k _ (getS hlt)
        have hc' : wr.cell? ⟨b', o' + k, none⟩ = some (.string ⟨m[k].toArray⟩) := hcell' k _ (getS hltm)
        clear hcell hcell' hA' hB' hA hB
        have H1 : Hid (l.take (k + 1) = l.take k ++ [l[k]]) := List.take_succ_eq_append_getElem hlt
        have H2 : Hid (m.take (k + 1) = m.take k ++ [m[k]]) := List.take_succ_eq_append_getElem hltm
        go_wp2_with fail
        go_quiet (fail)
        go_wp2_with fail
        · go_returns
          have hx : ¬ l[k] = m[k] := by simpa using ‹(!l[k] == m[k]) = true›
          have e : decide (l = m) = false := by
            rw [decide_eq_false_iff_not]; intro e
            apply hx
            have : l[k]? = m[k]? := by rw [e]
            simpa [hlt, hltm] using this
          exact ⟨by rw [e]; rfl, below_drewN hb _⟩
        · have hx : l[k] = m[k] := by simpa using ‹(!l[k] == m[k]) = false›
          go_roundw
          case rel => exact ⟨k + 1, by go_num, by omega, below_drewN hb _, by unfold Hid; rw [H1.out, H2.out, H.out, hx]⟩
          case measure => simp [intOf]; omega
      · obtain rfl : k = l.length := by omega
        have e : decide (l = m) = true := by
          have h1 := H.out
          rw [List.take_length, Hne.out, List.take_length] at h1
          simp [h1]
        have HE := Lib.hid e
        clear e
        go_wp2_with fail
        go_returns
        exact ⟨by rw [HE.out]; rfl, hb⟩
  · have hd : (((l.length : Nat) : Int) != ((m.length : Nat) : Int)) = true := by simp; omega
    have HF : Hid (decide (l = m) = false) := by
      unfold Hid; rw [decide_eq_false_iff_not]; intro e; exact hne (by rw [e])
    go_enter Tryd.func19, Tryd.ntmps19
    go_wp2_with fail
    go_returns
    exact ⟨ret_bool (by rw [HF.out]), Below.refl _ _⟩
end Go.Proofs.YtbpfbceagdikoaaDoor
