/- Join and the reference's Join: the walks. -/
import Derived.Test.YtbpfbceagdikoaaDoorW8
import Derived.Test.YtbpfbceagdikoaaDoorPlain7
namespace Go.Proofs.YtbpfbceagdikoaaDoor
open Go.RowKit
set_option linter.unusedVariables false

set_option maxHeartbeats 400000 in
theorem rvalid_max (s : ByteArray) (w : World) (hs : s.size ≤ 9223372036854775807) :
    Calls Tryd.prog 21 #[.string s] w fun e w' => e = .returned (.bool (validL s.data.toList)) ∧ w = w' := by
  have hc := point_any s 0 w hs (by omega)
  have HV : Hid (validL s.data.toList = (decide (0 < (point s.data.toList 0).2) && decide ((point s.data.toList 0).2 = s.size))) := by unfold Hid validL okL; rw [← Lib.size_eq]
  obtain ⟨c, hcc⟩ : ∃ c, (point s.data.toList 0).1 = c := ⟨_, rfl⟩
  obtain ⟨m, hm⟩ : ∃ m, (point s.data.toList 0).2 = m := ⟨_, rfl⟩
  rw [hcc, hm] at hc
  rw [hm] at HV
  clear hcc hm
  go_enter Tryd.func21, Tryd.ntmps21
  go_wp2_with (first | (go_at_call 44; refine hc.mono ?_; rintro e w1 ⟨rfl, rfl⟩))
  all_goals go_returns
  all_goals refine ⟨ret_bool ?_, rfl⟩
  all_goals rw [HV.out]
  all_goals go_light
  all_goals rw [Bool.eq_iff_iff]
  all_goals simp [*]
  all_goals omega

/-- strings.Join of a row, with no separator -/
theorem sjoin_any (A : Option Addr) (c : Nat) (l : List Bs) (w : World) (hrow : RowAt w A (l.map S)) (hc : l.length ≤ c) (hl : l.length ≤ 1000) (hf : l.flatten.length ≤ 16384) :
    Calls Tryd.prog 52 #[.slice A l.length c, .string ⟨#[]⟩] w fun e w' => e = .returned (.string ⟨l.flatten.toArray⟩) ∧ Below w.heap.size w w' := by
  cases l with
  | nil =>
    refine (Tryd.strings_Join_none A c ⟨#[]⟩ w).mono ?_
    rintro e w' ⟨rfl, rfl⟩
    exact ⟨rfl, Below.refl _ _⟩
  | cons x r =>
    obtain ⟨b, o, rfl, hbl, hcell⟩ := hrow (by simp)
    have hm : (((x :: r).map fun p : Bs => (⟨p.toArray⟩ : ByteArray)).map (·.data.toList)) = x :: r := by
      rw [List.map_map]
      conv => rhs; rw [← List.map_id (x :: r)]
      apply List.map_congr_left
      intro a _; rfl
    have he : (⟨#[]⟩ : ByteArray).data.toList = [] := rfl
    have hj := Tryd.strings_Join b o c ((x :: r).map fun p : Bs => (⟨p.toArray⟩ : ByteArray)) ⟨#[]⟩ w (fun j y hy => hcell j _ (by
        rw [List.getElem?_map] at hy ⊢
        cases hx : (x :: r)[j]? with
        | none => rw [hx] at hy; cases hy
        | some p => rw [hx] at hy; simp only [Option.map_some, Option.some.injEq] at hy; rw [← hy]; rfl)) hbl (by rw [List.length_map]; omega) (by rw [List.length_map]; exact hc)
      (by rw [hm, he, join_nosep]; omega)
    rw [hm, he, join_nosep, List.length_map] at hj
    exact hj

set_option maxHeartbeats 2000000 in
set_option maxRecDepth 100000 in
theorem join_any (A : Option Addr) (c : Nat) (l : List Bs) (w : World) (hT : Tabs w) (hrow : RowAt w A (l.map S)) (hl : l.length ≤ 300) (hc : l.length ≤ c) :
    Calls Tryd.prog 32 #[.slice A l.length c] w fun e w' => e = .returned (.tuple #[.string ⟨(joinR l).1.toArray⟩, .int .i64 (joinR l).2]) ∧ Below w.heap.size w w' := by
  have hA : Below w.heap.size w w := Below.refl _ _
  go_enter Tryd.func32, Tryd.ntmps32
  go_wp2_with fail
  go_loopw [2, 3, 4, 9] (fun _ _ n i wr => ∃ (k : Nat), i = .int .i64 k ∧ k ≤ l.length ∧ n = .int .i64 (l.take k).flatten.length ∧ (l.take k).flatten.length ≤ 4 * k ∧ Below w.heap.size w wr ∧ Hid (∀ p ∈ l.take k, validL p = true)) (fun _ _ _ i _ => l.length - (intOf i).toNat)
  case atStart => exact ⟨0, rfl, by omega, rfl, by simp, Below.refl _ _, by simp [Hid]⟩
  case round =>
    obtain ⟨k, rfl, hk, rfl, hn, hb, H⟩ := hrel
    have hTr := hT.below hb
    by_cases hlt : k < l.length
    · obtain ⟨b, o, rfl, hbl, hcell⟩ := (hrow.below hb) (by intro e; rw [List.map_eq_nil_iff] at e; rw [e] at hlt; simp at hlt)
      obtain ⟨P, hP⟩ : ∃ P : ByteArray, (⟨l[k].toArray⟩ : ByteArray) = P := ⟨_, rfl⟩
      have hPd : P.data.toList = l[k] := by rw [← hP]
      have hcl : wr.cell? ⟨b, o + k, none⟩ = some (.string P) := by rw [← hP]; exact hcell k _ (getS hlt)
      have hv := valid_any P wr hTr
      rw [hPd] at hv
      clear hcell
      cases hvv : validL l[k] with
      | false =>
        rw [hvv] at hv
        have HJ := Lib.hid (join_bad hlt hvv)
        clear hvv hP hPd
        go_wp2_with (go_at_call 20; refine hv.mono ?_; rintro e wx ⟨rfl, hbx⟩; have hbA := bstep hb hbx)
        go_returns
        exact ⟨by rw [HJ.out]; rfl, hbA⟩
      | true =>
        rw [hvv] at hv
        have hsz := valid_size hvv
        rw [← hPd, ← Lib.size_eq] at hsz
        have hft : (l.take (k + 1)).flatten.length = (l.take k).flatten.length + P.size := by rw [flat_take l hlt, List.length_append, Lib.size_eq P, hPd]
        have HN : Hid (∀ p ∈ l.take (k + 1), validL p = true) := fun p hp => by
          rw [List.take_succ_eq_append_getElem hlt] at hp
          rcases List.mem_append.1 hp with hp | hp
          · exact H.out p hp
          · rw [List.mem_singleton.1 hp]; exact hvv
        clear hvv hP hPd
        obtain ⟨n, hnn⟩ : ∃ n, (l.take k).flatten.length = n := ⟨_, rfl⟩
        rw [hnn] at hn hft ⊢
        have HF := Lib.hid hft
        clear hft hnn
        go_wp2_with (go_at_call 20; refine hv.mono ?_; rintro e wx ⟨rfl, hbx⟩; have hbA := bstep hb hbx)
        go_roundw
        case rel => exact ⟨k + 1, by go_num, by omega, by rw [HF.out]; go_num, by rw [HF.out]; omega, hbA, HN⟩
        case measure => simp [intOf]; omega
    · obtain rfl : k = l.length := by omega
      rw [List.take_length] at hn H ⊢
      have HJ := Lib.hid (join_good H.out)
      obtain ⟨n, hnn⟩ : ∃ n, l.flatten.length = n := ⟨_, rfl⟩
      rw [hnn] at hn ⊢
      by_cases h6 : 16384 < n
      · exfalso; omega
      · have HJ2 : Hid (joinR l = (l.flatten, 0)) := by rw [Hid, HJ.out, hnn, if_neg h6]
        have hj := sjoin_any A c l wr (hrow.below hb) hc (by omega) (by omega)
        obtain ⟨F, hF⟩ : ∃ F : ByteArray, (⟨l.flatten.toArray⟩ : ByteArray) = F := ⟨_, rfl⟩
        rw [hF] at hj
        have HF := Lib.hid hF
        clear hnn HJ hF
        go_wp2_with (go_at_call 52; refine hj.mono ?_; rintro e wx ⟨rfl, hbx⟩; have hbA := bstep hb hbx)
        go_returns
        exact ⟨by rw [HJ2.out, ← HF.out]; rfl, hbA⟩

set_option maxHeartbeats 2000000 in
set_option maxRecDepth 100000 in
theorem rjoin_any (A : Option Addr) (c : Nat) (l : List Bs) (w : World) (hrow : RowAt w A (l.map S)) (hl : l.length ≤ 300) (hc : l.length ≤ c) (hp : ∀ p ∈ l, p.length ≤ 9223372036854775807) :
    Calls Tryd.prog 33 #[.slice A l.length c] w fun e w' => e = .returned (.tuple #[.string ⟨(joinR l).1.toArray⟩, .int .i64 (joinR l).2]) ∧ Below w.heap.size w w' := by
  obtain ⟨i0, hi, hz0, hz1, hz2⟩ := info_parts byteInfo
  go_enter Tryd.func33, Tryd.ntmps33
  go_wp2_with fail
  go_loopw [2, 3, 4, 5] (fun _ _ n i wr => ∃ (k : Nat), i = .int .i64 k ∧ k ≤ l.length ∧ n = .int .i64 (l.take k).flatten.length ∧ (l.take k).flatten.length ≤ 4 * k ∧ wr = w ∧ Hid (∀ p ∈ l.take k, validL p = true)) (fun _ _ _ i _ => l.length - (intOf i).toNat)
  case atStart => exact ⟨0, rfl, by omega, rfl, by simp, rfl, by simp [Hid]⟩
  case round =>
    obtain ⟨k, rfl, hk, rfl, hn, rfl, H⟩ := hrel
    by_cases hlt : k < l.length
    · obtain ⟨b, o, rfl, hbl, hcell⟩ := hrow (by intro e; rw [List.map_eq_nil_iff] at e; rw [e] at hlt; simp at hlt)
      obtain ⟨P, hP⟩ : ∃ P : ByteArray, (⟨l[k].toArray⟩ : ByteArray) = P := ⟨_, rfl⟩
      have hPd : P.data.toList = l[k] := by rw [← hP]
      have hcl : wr.cell? ⟨b, o + k, none⟩ = some (.string P) := by rw [← hP]; exact hcell k _ (getS hlt)
      have hps := hp _ (List.getElem_mem hlt)
      have hv := rvalid_max P wr (by rw [Lib.size_eq, hPd]; exact hps)
      rw [hPd] at hv
      clear hcell
      cases hvv : validL l[k] with
      | false =>
        rw [hvv] at hv
        have HJ := Lib.hid (join_bad hlt hvv)
        clear hvv hP hPd
        go_wp2_with (go_at_call 21; refine hv.mono ?_; rintro e wx ⟨rfl, rfl⟩)
        go_returns
        exact ⟨by rw [HJ.out]; rfl, Below.refl _ _⟩
      | true =>
        rw [hvv] at hv
        have hsz := valid_size hvv
        rw [← hPd, ← Lib.size_eq] at hsz
        have hft : (l.take (k + 1)).flatten.length = (l.take k).flatten.length + P.size := by rw [flat_take l hlt, List.length_append, Lib.size_eq P, hPd]
        have HN : Hid (∀ p ∈ l.take (k + 1), validL p = true) := fun p hp => by
          rw [List.take_succ_eq_append_getElem hlt] at hp
          rcases List.mem_append.1 hp with hp | hp
          · exact H.out p hp
          · rw [List.mem_singleton.1 hp]; exact hvv
        clear hvv hP hPd
        obtain ⟨n, hnn⟩ : ∃ n, (l.take k).flatten.length = n := ⟨_, rfl⟩
        rw [hnn] at hn hft ⊢
        have HF := Lib.hid hft
        clear hft hnn
        go_wp2_with (go_at_call 21; refine hv.mono ?_; rintro e wx ⟨rfl, rfl⟩)
        go_roundw
        case rel => exact ⟨k + 1, by go_num, by omega, by rw [HF.out]; go_num, by rw [HF.out]; omega, trivial, HN⟩
        case measure => simp [intOf]; omega
    · obtain rfl : k = l.length := by omega
      rw [List.take_length] at hn H ⊢
      have HJ := Lib.hid (join_good H.out)
      have HV := H
      clear H
      obtain ⟨n, hnn⟩ : ∃ n, l.flatten.length = n := ⟨_, rfl⟩
      rw [hnn] at hn ⊢
      have HJ2 : Hid (joinR l = (l.flatten, 0)) := by rw [Hid, HJ.out, hnn, if_neg (by omega)]
      clear HJ
      have HF := Lib.hid hnn
      clear hnn
      have hn5 : n ≤ 1200 := by omega
      clear hn
      go_wp2_with fail
      go_loopw [6, 7] (fun v i wr' => ∃ (k : Nat), i = .int .i64 k ∧ k ≤ l.length ∧ Below wr.heap.size wr wr' ∧ Own wr.heap.size 5 v (Lib.byteCells (l.take k).flatten) wr') (fun _ i _ => l.length - (intOf i).toNat)
      case atStart => exact ⟨0, rfl, by omega, Below.refl _ _, Own.nil _ _ _⟩
      case round =>
        obtain ⟨k, rfl, hk, hb, hown⟩ := hrel
        by_cases hlt : k < l.length
        · obtain ⟨b, o, rfl, hbl, hcell⟩ := (hrow.below hb) (by intro e; rw [List.map_eq_nil_iff] at e; rw [e] at hlt; simp at hlt)
          obtain ⟨P, hP⟩ : ∃ P : ByteArray, (⟨l[k].toArray⟩ : ByteArray) = P := ⟨_, rfl⟩
          have hPd : P.data.toList = l[k] := by rw [← hP]
          have hcl := hcell k _ (getS hlt)
          rw [show S l[k] = .string P from by rw [← hP]; rfl] at hcl
          clear hcell
          have hfl := flat_take_le l (k + 1)
          rw [flat_take l hlt, List.length_append, HF.out, ← hPd, ← Lib.size_eq] at hfl
          have hcv : (l.take k).flatten.length + P.size ≤ 140737488355328 := by omega
          have HN : Hid ((l.take (k + 1)).flatten = (l.take k).flatten ++ P.data.toList) := by rw [Hid, flat_take l hlt, hPd]
          clear hfl hP hPd
          go_wp2_with (at_builtin; refine wpList_appS rfl (.tmp 35) (.tmp 39) 42 9 rfl _ 5 i0 Tryd.underlying42 Tryd.underlying9 hi hz0 hz1 hz2 _ (l.take k).flatten rfl hown rfl hcv hb.size ?_; intro v' w3 hown4 hb4)
          go_roundw
          case rel => exact ⟨k + 1, by go_num, by omega, hb.trans hb4, by rw [HN.out]; exact hown4⟩
          case measure => simp [intOf]; omega
        · obtain rfl : k = l.length := by omega
          rw [List.take_length] at hown
          have hcv := own_string Tryd.underlying42 Tryd.underlying5 Tryd.underlying9 hown
          go_wp2_with fail
          go_returns
          exact ⟨by rw [HJ2.out]; rfl, hb⟩
end Go.Proofs.YtbpfbceagdikoaaDoor
