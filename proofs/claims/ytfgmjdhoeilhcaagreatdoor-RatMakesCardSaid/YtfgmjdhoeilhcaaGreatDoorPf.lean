/- Walks of the reference of rat: digits, plain; what Parse answers, by the digits that come first. -/
import Derived.Test.YtfgmjdhoeilhcaaGreatDoorPe
namespace Go.Proofs.YtfgmjdhoeilhcaaGreatDoor
open Go.RowKit
set_option linter.unusedVariables false

/-- the digits that come first, and what is behind them -/
def hdD (l : Bs) : Bs := l.takeWhile isDig
def tlD (l : Bs) : Bs := l.dropWhile isDig
theorem hd_tl (l : Bs) : l = hdD l ++ tlD l := (List.takeWhile_append_dropWhile).symm
theorem hdD_dig (l : Bs) : ∀ c ∈ hdD l, isDig c = true := fun c hc => by
  unfold hdD at hc
  induction l with
  | nil => simp at hc
  | cons x r ih =>
    rw [List.takeWhile_cons] at hc
    split at hc
    · rename_i hx
      rcases List.mem_cons.1 hc with rfl | hc
      · exact hx
      · exact ih hc
    · cases hc
theorem hdD_len : ∀ {l : Bs} {j : Nat}, j ≤ l.length → (∀ c ∈ l.take j, isDig c = true) → (∀ h : j < l.length, isDig l[j] = false) → (hdD l).length = j
  | [], j, hj, _, _ => by simp at hj; subst hj; rfl
  | x :: r, 0, _, _, h => by
    have := h (by simp)
    simp at this
    unfold hdD
    rw [List.takeWhile_cons, if_neg (by simp [this])]; rfl
  | x :: r, j + 1, hj, ht, h => by
    have hx := ht x (by simp)
    have ih := hdD_len (l := r) (j := j) (by simpa using hj) (fun c hc => ht c (by simp [hc])) (fun h' => by have := h (by rw [List.length_cons]; omega); rw [List.getElem_cons_succ] at this; exact this)
    unfold hdD at ih ⊢
    rw [List.takeWhile_cons, if_pos hx, List.length_cons, ih]
set_option maxHeartbeats 1000000 in
set_option maxRecDepth 100000 in
theorem pdig_any (s : ByteArray) (i : Nat) (w : World) (hs : s.size ≤ 1000000) (hi : i ≤ s.size) :
    Calls Tryz.prog 48 #[.string s, .int .i64 i] w fun e w' => e = .returned (.int .i64 ((i + (hdD (s.data.toList.drop i)).length : Nat) : Int)) ∧ w = w' := by
  have la := Lib.size_eq s
  have HH : Hid (∀ k, i ≤ k → k ≤ s.size → (∀ c ∈ (s.data.toList.drop i).take (k - i), isDig c = true) → (∀ h : k < s.size, isDig s[k] = false) → i + (hdD (s.data.toList.drop i)).length = k) := by
    intro k h1 h2 h3 h4
    have hl : (s.data.toList.drop i).length = s.size - i := by rw [List.length_drop, ← la]
    have := hdD_len (l := s.data.toList.drop i) (j := k - i) (by omega) h3 (fun h => by
      rw [List.getElem_drop]
      have e : i + (k - i) = k := by omega
      have h5 := h4 (by omega)
      simp only [e]
      exact h5)
    omega
  have HM : Hid (∀ k, i ≤ k → ∀ (h : k < s.size), (∀ c ∈ (s.data.toList.drop i).take (k - i), isDig c = true) → isDig s[k] = true → ∀ c ∈ (s.data.toList.drop i).take (k + 1 - i), isDig c = true) := by
    intro k h1 h h3 h4 c hc
    have hlt : k - i < (s.data.toList.drop i).length := by rw [List.length_drop, ← la]; omega
    rw [show k + 1 - i = (k - i) + 1 by omega, List.take_succ_eq_append_getElem hlt] at hc
    rcases List.mem_append.1 hc with hc | hc
    · exact h3 c hc
    · rw [List.mem_singleton.1 hc, List.getElem_drop]
      have e : i + (k - i) = k := by omega
      simp only [e]
      exact h4
  clear la
  go_enter Tryz.func48, Tryz.ntmps48
  go_wp2_with fail
  go_loopw [1] (fun v wr => ∃ (k : Nat), v = .int .i64 k ∧ i ≤ k ∧ k ≤ s.size ∧ w = wr ∧ Hid (∀ c ∈ (s.data.toList.drop i).take (k - i), isDig c = true)) (fun v _ => s.size - (intOf v).toNat)
  case atStart => exact ⟨i, rfl, by omega, hi, rfl, by simp [Hid]⟩
  case round =>
    obtain ⟨k, rfl, hk1, hk2, rfl, HD⟩ := hrel
    by_cases hlt : k < s.size
    · have HE := Lib.hid (fun (h4 : isDig s[k] = false) => HH.out k hk1 hk2 HD.out (fun _ => h4))
      have HN := Lib.hid (HM.out k hk1 hlt HD.out)
      have hdg := isDig_iff s[k]
      obtain ⟨x, hx⟩ : ∃ x, s[k].toNat = x := ⟨_, rfl⟩
      have hdx : isDig s[k] = true ↔ 48 ≤ x ∧ x ≤ 57 := by rw [hdg, hx]
      have ki : (k : Int) < (s.size : Int) := by omega
      have k0 : (0 : Int) ≤ (k : Int) := by omega
      clear hdg
      rcases Nat.lt_or_ge x 48 with h1 | h1
      · have HR := Lib.hid (HE.out (Bool.eq_false_iff.2 (fun e => by have := hdx.1 e; omega)))
        have g1 : decide ((48 : Int) ≤ (x : Int)) = false := decide_eq_false (by omega)
        have g1' : (x : Int) < 48 := by omega
        clear hdx h1
        go_wp2_with fail
        go_returns
        exact ⟨by rw [HR.out]; rfl, rfl⟩
      · have g1 : (48 : Int) ≤ (x : Int) := by omega
        rcases Nat.lt_or_ge 57 x with h2 | h2
        · have HR := Lib.hid (HE.out (Bool.eq_false_iff.2 (fun e => by have := hdx.1 e; omega)))
          have g2 : decide ((x : Int) ≤ 57) = false := decide_eq_false (by omega)
          have g2' : (57 : Int) < (x : Int) := by omega
          clear hdx h1 h2
          go_wp2_with fail
          go_returns
          exact ⟨by rw [HR.out]; rfl, rfl⟩
        · have g2 : (x : Int) ≤ 57 := by omega
          have HN2 := Lib.hid (HN.out (hdx.2 ⟨h1, h2⟩))
          clear hdx h1 h2
          go_wp2_with fail
          go_roundw
          case rel => exact ⟨k + 1, by go_num, by omega, by omega, trivial, HN2⟩
          case measure => simp [intOf]; omega
    · obtain rfl : k = s.size := by omega
      have HR := Lib.hid (HH.out _ hk1 (by omega) HD.out (fun h => by omega))
      go_wp2_with fail
      go_returns
      exact ⟨by rw [HR.out]; rfl, rfl⟩
theorem natB_strip {c : UInt8} {r : Bs} (h : r ≠ []) (hc : c = 48) : natB (c :: r) = natB r := by
  subst hc
  unfold natB Lib.trimLeftB
  simp
theorem natB_stop {c : UInt8} {r : Bs} (h : r = [] ∨ c ≠ 48) : natB (c :: r) = c :: r := by
  unfold natB Lib.trimLeftB
  by_cases hc : c = 48
  · obtain rfl : r = [] := by
      rcases h with h | h
      · exact h
      · exact absurd hc h
    subst hc
    rfl
  · simp [hc]
set_option maxHeartbeats 1000000 in
set_option maxRecDepth 100000 in
theorem pplain_any (s : ByteArray) (w : World) (hs : s.size ≤ 1000000) (h0 : s.data.toList ≠ []) :
    Calls Tryz.prog 49 #[.string s] w fun e w' => e = .returned (.string ⟨(natB s.data.toList).toArray⟩) ∧ w = w' := by
  go_enter Tryz.func49, Tryz.ntmps49
  go_wp2_with fail
  go_loopw [0] (fun v wr => ∃ (t : ByteArray), v = .string t ∧ t.size ≤ 1000000 ∧ w = wr ∧ Hid (t.data.toList ≠ []) ∧ Hid (natB t.data.toList = natB s.data.toList)) (fun v _ => strLen v)
  case atStart => exact ⟨s, rfl, hs, rfl, h0, rfl⟩
  case round =>
    obtain ⟨t, rfl, ht, rfl, HN, HV⟩ := hrel
    have la := Lib.size_eq t
    have hp : 0 < t.size := by rw [la]; exact List.length_pos_iff.2 HN.out
    have hcons : t.data.toList = t[0] :: t.data.toList.drop 1 := by have := drop_byte t 0 hp; rwa [List.drop_zero] at this
    obtain ⟨x, hx⟩ : ∃ x, t[0].toNat = x := ⟨_, rfl⟩
    by_cases hgo : 1 < t.size ∧ x = 48
    · obtain ⟨h1, h2⟩ := hgo
      have hd : (t.extract 1 t.size).data.toList = t.data.toList.drop 1 := by
        rw [ext_data, List.take_of_length_le (by rw [List.length_drop, ← la]; exact Nat.le_refl _)]
      have hlen : (t.data.toList.drop 1).length = t.size - 1 := by rw [List.length_drop, ← la]
      have HN2 : Hid ((t.extract 1 t.size).data.toList ≠ []) := by
        rw [Hid, hd]; intro e; rw [e] at hlen; simp at hlen; omega
      have HV2 : Hid (natB (t.extract 1 t.size).data.toList = natB s.data.toList) := by
        rw [Hid, hd, ← HV.out]
        conv => rhs; rw [hcons]
        exact (natB_strip (by rw [← hd]; exact HN2.out) (UInt8.toNat_inj.1 (by rw [hx, h2]; rfl))).symm
      have hsz : (t.extract 1 t.size).size = t.size - 1 := by rw [Lib.size_eq, hd, hlen]
      have HSZ := Lib.hid hsz
      have i1 : (1 : Int) < (t.size : Int) := by omega
      have i0 : (1 : Int) ≤ (t.size : Int) := by omega
      subst h2
      clear hd hlen hcons la hsz
      go_wp2_with fail
      go_roundw
      case rel => exact ⟨_, rfl, by rw [HSZ.out]; omega, trivial, HN2, HV2⟩
      case measure => show (t.extract 1 t.size).size < t.size; rw [HSZ.out]; omega
    · have hst : t.data.toList.drop 1 = [] ∨ t[0] ≠ 48 := by
        by_cases h1 : 1 < t.size
        · right; intro e; exact hgo ⟨h1, by rw [← hx, e]; rfl⟩
        · left; apply List.eq_nil_of_length_eq_zero; rw [List.length_drop, ← la]; omega
      have HR : Hid ((⟨(natB s.data.toList).toArray⟩ : ByteArray) = t) := by
        rw [Hid, ← HV.out]
        apply data_of
        conv => rhs; rw [hcons]
        rw [natB_stop hst]
        exact hcons
      rcases Nat.lt_or_ge 1 t.size with h1 | h1
      · have hx2 : ¬ x = 48 := fun e => hgo ⟨h1, e⟩
        have hxi : ((x : Int) == 48) = false := beq_eq_false_iff_ne.2 (by omega)
        have i1 : (1 : Int) < (t.size : Int) := by omega
        clear hst hcons la hgo
        go_wp2_with fail
        go_returns
        exact ⟨by rw [HR.out]; rfl, rfl⟩
      · have i1 : decide ((1 : Int) < (t.size : Int)) = false := decide_eq_false (by omega)
        have i2 : (t.size : Int) ≤ 1 := by omega
        clear hst hcons la hgo
        go_wp2_with fail
        go_returns
        exact ⟨by rw [HR.out]; rfl, rfl⟩
end Go.Proofs.YtfgmjdhoeilhcaaGreatDoor
