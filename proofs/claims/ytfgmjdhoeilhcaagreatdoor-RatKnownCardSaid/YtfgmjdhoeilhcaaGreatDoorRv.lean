/- Walks: Valid of nat and of the reference. -/
import Derived.Test.YtfgmjdhoeilhcaaGreatDoorRb
import Derived.Test.YtfgmjdhoeilhcaaGreatDoorNz
namespace Go.Proofs.YtfgmjdhoeilhcaaGreatDoor
open Go.RowKit
set_option linter.unusedVariables false

theorem okN_empty {s : ByteArray} (h : s.size = 0) : okN s.data.toList = false := by rw [data_nil h]; rfl
theorem okN_long {l : Bs} (h : 1000 < l.length) : okN l = false := by
  cases hh : okN l with
  | false => rfl
  | true => have := ((okN_iff l).1 hh).2; omega
theorem okN_zero {s : ByteArray} (h : 1 < s.size) (h0 : s[0]'(by omega) = 48) : okN s.data.toList = false := by
  cases hh : okN s.data.toList with
  | false => rfl
  | true =>
    obtain ⟨⟨h1, h2, h3⟩, h4⟩ := (okN_iff _).1 hh
    exfalso
    apply h3 (by rw [← Lib.size_eq]; exact h)
    have := drop_byte s 0 (by omega)
    rw [List.drop_zero] at this
    rw [this, List.head?_cons, h0]
theorem okN_bad {s : ByteArray} {k : Nat} (hk : k < s.size) (h : isDig s[k] = false) : okN s.data.toList = false := by
  cases hh : okN s.data.toList with
  | false => rfl
  | true =>
    obtain ⟨⟨h1, h2, h3⟩, h4⟩ := (okN_iff _).1 hh
    have := h2 s[k] (by
      have := drop_byte s k hk
      exact List.mem_of_mem_drop (i := k) (by rw [this]; exact List.mem_cons_self))
    rw [h] at this; cases this
theorem okN_good {s : ByteArray} (h0 : 0 < s.size) (h1 : s.size ≤ 1000) (h2 : s.size ≤ 1 ∨ s[0]'h0 ≠ 48) (h3 : ∀ c ∈ s.data.toList, isDig c = true) : okN s.data.toList = true := by
  rw [okN_iff]
  have hs := Lib.size_eq s
  have hne : s.data.toList ≠ [] := by
    intro e
    have : s.data.toList.length = 0 := by rw [e]; rfl
    omega
  refine ⟨⟨hne, h3, fun hl => ?_⟩, by omega⟩
  have := drop_byte s 0 (by omega)
  rw [List.drop_zero] at this
  rw [this, List.head?_cons]
  intro e
  injection e with e
  rcases h2 with h2 | h2
  · omega
  · exact h2 e
theorem dig_take {s : ByteArray} {k : Nat} (hk : k < s.size) (h : ∀ c ∈ s.data.toList.take k, isDig c = true) (hd : isDig s[k] = true) : ∀ c ∈ s.data.toList.take (k + 1), isDig c = true := by
  intro c hc
  have hlt : k < s.data.toList.length := by rw [← Lib.size_eq]; exact hk
  rw [List.take_succ_eq_append_getElem hlt] at hc
  rcases List.mem_append.1 hc with hc | hc
  · exact h c hc
  · rw [List.mem_singleton.1 hc]; exact hd

set_option maxHeartbeats 1000000 in
set_option maxRecDepth 100000 in
theorem nvalid_any (s : ByteArray) (w : World) (hs : s.size ≤ 9223372036854775807) :
    Calls Tryz.prog 37 #[.string s] w fun e w' => e = .returned (.bool (okN s.data.toList)) ∧ w = w' := by
  by_cases h0 : s.size = 0
  · have hemp := isEmpty_of h0
    have HK := Lib.hid (okN_empty h0)
    go_enter Tryz.func37, Tryz.ntmps37
    go_wp2_with fail
    go_returns
    exact ⟨by rw [HK.out]; rfl, rfl⟩
  have hemp := not_isEmpty_of h0
  rcases Nat.lt_or_ge 1000 s.size with h1 | h1
  · have HK := Lib.hid (okN_long (l := s.data.toList) (by rw [← Lib.size_eq]; exact h1))
    go_enter Tryz.func37, Tryz.ntmps37
    go_wp2_with fail
    go_returns
    exact ⟨by rw [HK.out]; rfl, rfl⟩
  have hx0 : 0 < s.size := by omega
  by_cases h2 : 1 < s.size ∧ s[0] = 48
  · obtain ⟨h2, h3⟩ := h2
    have HK := Lib.hid (okN_zero h2 h3)
    have f0 : (((s[0].toNat : Nat) : Int) == 48) = true := by rw [h3]; rfl
    clear h3
    go_enter Tryz.func37, Tryz.ntmps37
    go_wp2_with fail
    go_returns
    exact ⟨by rw [HK.out]; rfl, rfl⟩
  have HG : Hid ((∀ c ∈ s.data.toList, isDig c = true) → okN s.data.toList = true) := fun h3 => okN_good hx0 h1 (by
    rcases Nat.lt_or_ge 1 s.size with h | h
    · exact Or.inr fun e => h2 ⟨h, e⟩
    · exact Or.inl h) h3
  have hc : (s.size = 1 ∧ (((s[0].toNat : Nat) : Int) == 48) = true) ∨ (s.size = 1 ∧ (((s[0].toNat : Nat) : Int) == 48) = false) ∨ 1 < s.size ∧ (((s[0].toNat : Nat) : Int) == 48) = false := by
    by_cases e : s[0] = 48
    · exact Or.inl ⟨by rcases Nat.lt_or_ge 1 s.size with h | h; exact absurd ⟨h, e⟩ h2; omega, by rw [e]; rfl⟩
    · have : s[0].toNat ≠ 48 := fun hh => e (UInt8.toNat_inj.1 hh)
      have hf : (((s[0].toNat : Nat) : Int) == 48) = false := by simp; omega
      rcases Nat.lt_or_ge 1 s.size with h | h
      · exact Or.inr (Or.inr ⟨h, hf⟩)
      · exact Or.inr (Or.inl ⟨by omega, hf⟩)
  clear h2
  rcases hc with ⟨hc, f0⟩ | ⟨hc, f0⟩ | ⟨hc, f0⟩
  all_goals
    go_enter Tryz.func37, Tryz.ntmps37
    go_wp2_with fail
    go_loopw [2, 23] (fun _ i wr => ∃ (k : Nat), i = .int .i64 k ∧ k ≤ s.size ∧ wr = w ∧ Hid (∀ c ∈ s.data.toList.take k, isDig c = true)) (fun _ i _ => s.size - (intOf i).toNat)
    case atStart => exact ⟨0, rfl, by omega, rfl, by simp [Hid]⟩
    case round =>
      obtain ⟨k, rfl, hk, rfl, H⟩ := hrel
      by_cases hlt : k < s.size
      · obtain ⟨n, hn⟩ : ∃ n, s[k].toNat = n := ⟨_, rfl⟩
        have hx := s[k].toNat_lt
        by_cases hd : isDig s[k] = true
        · have HN := Lib.hid (dig_take hlt H.out hd)
          rw [isDig_iff, hn] at hd
          obtain ⟨d1, d2⟩ := hd
          go_wp2_with fail
          go_roundw
          case rel => exact ⟨k + 1, by go_num, by omega, trivial, HN⟩
          case measure => simp [intOf]; omega
        · have hd' : isDig s[k] = false := by simpa using hd
          have HK := Lib.hid (okN_bad hlt hd')
          rw [isDig_iff, hn] at hd
          have hdd : n < 48 ∨ 57 < n := by omega
          clear hd hd'
          rcases hdd with hd | hd
          all_goals
            go_wp2_with fail
            go_returns
            exact ⟨by rw [HK.out]; rfl, rfl⟩
      · obtain rfl : k = s.size := by omega
        have HK : Hid (okN s.data.toList = true) := HG.out (by
          have := H.out
          rwa [List.take_of_length_le (by rw [← Lib.size_eq]; exact Nat.le_refl _)] at this)
        go_wp2_with fail
        go_returns
        exact ⟨by rw [HK.out]; rfl, rfl⟩
set_option maxHeartbeats 1000000 in
set_option maxRecDepth 100000 in
theorem rvalid_any (s : ByteArray) (w : World) (hs : s.size ≤ 9223372036854775807) :
    Calls Tryz.prog 41 #[.string s] w fun e w' => e = .returned (.bool (okN s.data.toList)) ∧ w = w' := by
  by_cases h0 : s.size = 0
  · have hemp := isEmpty_of h0
    have HK := Lib.hid (okN_empty h0)
    go_enter Tryz.func41, Tryz.ntmps41
    go_wp2_with fail
    go_returns
    exact ⟨by rw [HK.out]; rfl, rfl⟩
  have hemp := not_isEmpty_of h0
  rcases Nat.lt_or_ge 1000 s.size with h1 | h1
  · have HK := Lib.hid (okN_long (l := s.data.toList) (by rw [← Lib.size_eq]; exact h1))
    go_enter Tryz.func41, Tryz.ntmps41
    go_wp2_with fail
    go_returns
    exact ⟨by rw [HK.out]; rfl, rfl⟩
  have hx0 : 0 < s.size := by omega
  by_cases h2 : 1 < s.size ∧ s[0] = 48
  · obtain ⟨h2, h3⟩ := h2
    have HK := Lib.hid (okN_zero h2 h3)
    have f0 : (((s[0].toNat : Nat) : Int) == 48) = true := by rw [h3]; rfl
    clear h3
    go_enter Tryz.func41, Tryz.ntmps41
    go_wp2_with fail
    go_returns
    exact ⟨by rw [HK.out]; rfl, rfl⟩
  have HG : Hid ((∀ c ∈ s.data.toList, isDig c = true) → okN s.data.toList = true) := fun h3 => okN_good hx0 h1 (by
    rcases Nat.lt_or_ge 1 s.size with h | h
    · exact Or.inr fun e => h2 ⟨h, e⟩
    · exact Or.inl h) h3
  have hc : (s.size = 1 ∧ (((s[0].toNat : Nat) : Int) == 48) = true) ∨ (s.size = 1 ∧ (((s[0].toNat : Nat) : Int) == 48) = false) ∨ 1 < s.size ∧ (((s[0].toNat : Nat) : Int) == 48) = false := by
    by_cases e : s[0] = 48
    · exact Or.inl ⟨by rcases Nat.lt_or_ge 1 s.size with h | h; exact absurd ⟨h, e⟩ h2; omega, by rw [e]; rfl⟩
    · have : s[0].toNat ≠ 48 := fun hh => e (UInt8.toNat_inj.1 hh)
      have hf : (((s[0].toNat : Nat) : Int) == 48) = false := by simp; omega
      rcases Nat.lt_or_ge 1 s.size with h | h
      · exact Or.inr (Or.inr ⟨h, hf⟩)
      · exact Or.inr (Or.inl ⟨by omega, hf⟩)
  clear h2
  rcases hc with ⟨hc, f0⟩ | ⟨hc, f0⟩ | ⟨hc, f0⟩
  all_goals
    go_enter Tryz.func41, Tryz.ntmps41
    go_wp2_with fail
    go_loopw [2, 3] (fun _ i wr => ∃ (k : Nat), i = .int .i64 k ∧ k ≤ s.size ∧ wr = w ∧ Hid (∀ c ∈ s.data.toList.take k, isDig c = true)) (fun _ i _ => s.size - (intOf i).toNat)
    case atStart => exact ⟨0, rfl, by omega, rfl, by simp [Hid]⟩
    case round =>
      obtain ⟨k, rfl, hk, rfl, H⟩ := hrel
      by_cases hlt : k < s.size
      · obtain ⟨n, hn⟩ : ∃ n, s[k].toNat = n := ⟨_, rfl⟩
        have hx := s[k].toNat_lt
        by_cases hd : isDig s[k] = true
        · have HN := Lib.hid (dig_take hlt H.out hd)
          rw [isDig_iff, hn] at hd
          obtain ⟨d1, d2⟩ := hd
          go_wp2_with fail
          go_roundw
          case rel => exact ⟨k + 1, by go_num, by omega, trivial, HN⟩
          case measure => simp [intOf]; omega
        · have hd' : isDig s[k] = false := by simpa using hd
          have HK := Lib.hid (okN_bad hlt hd')
          rw [isDig_iff, hn] at hd
          have hdd : n < 48 ∨ 57 < n := by omega
          clear hd hd'
          rcases hdd with hd | hd
          all_goals
            go_wp2_with fail
            go_returns
            exact ⟨by rw [HK.out]; rfl, rfl⟩
      · obtain rfl : k = s.size := by omega
        have HK : Hid (okN s.data.toList = true) := HG.out (by
          have := H.out
          rwa [List.take_of_length_le (by rw [← Lib.size_eq]; exact Nat.le_refl _)] at this)
        go_wp2_with fail
        go_returns
        exact ⟨by rw [HK.out]; rfl, rfl⟩
end Go.Proofs.YtfgmjdhoeilhcaaGreatDoor
