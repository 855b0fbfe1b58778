/- Walks: limited, Add, Sub, Cmp of nat. -/
import Derived.Test.YtfgmjdhoeilhcaaGreatDoorRt
import Derived.Test.YtfgmjdhoeilhcaaGreatDoorRv
namespace Go.Proofs.YtfgmjdhoeilhcaaGreatDoor
open Go.RowKit
set_option linter.unusedVariables false

/-- what a function answers that returns a text and an error -/
def TxtPost (w : World) (r : Bs × Nat) (e : Ending) (w' : World) : Prop :=
  e = .returned (.tuple #[.string ⟨r.1.toArray⟩, .int .i64 r.2]) ∧ Below w.heap.size w w'
theorem okN_size {s : ByteArray} (h : okN s.data.toList = true) : s.size ≤ 1000 := by rw [Lib.size_eq]; exact ((okN_iff _).1 h).2
theorem okN_digs {s : ByteArray} (h : okN s.data.toList = true) : ∀ c ∈ s.data.toList, isDig c = true := ((okN_iff _).1 h).1.2.1
theorem nblocks_any (s : ByteArray) (w : World) (h : okN s.data.toList = true) :
    Calls Tryz.prog 83 #[.string s] w (BlkPost w (blk (decV s.data.toList))) :=
  blocks_any s w (okN_digs h) (by have := okN_size h; omega)

set_option maxHeartbeats 1000000 in
set_option maxRecDepth 100000 in
theorem limited_any (A : Option Addr) (c n : Nat) (w : World) (hT : Tabs w) (hA : RowAt w A ((blk n).map U)) (hm : (blk n).length ≤ 10000) :
    Calls Tryz.prog 84 #[.slice A (blk n).length c] w (TxtPost w (limN n)) := by
  have ht := text_any A c n w hT hA hm
  have hlen : (decT n).length ≤ 9 * (blk n).length + 1 := by
    have h1 := (digL_length BB_two n (blk n).length).1 (Nat.le_refl _)
    rw [BB_pow] at h1
    exact (decT_length n _ (by omega)).2 (Nat.lt_of_lt_of_le h1 (Nat.pow_le_pow_right (by omega) (by omega)))
  obtain ⟨F, hF⟩ : ∃ F : ByteArray, (⟨(decT n).toArray⟩ : ByteArray) = F := ⟨_, rfl⟩
  have hFs : F.size = (decT n).length := by rw [← hF, Lib.size_eq]
  rw [hF] at ht
  have HF := Lib.hid hF
  generalize (blk n).length = N at *
  by_cases hl : 1000 < (decT n).length
  · have HK : Hid (limN n = ([], 2)) := by unfold Hid limN; rw [if_pos hl]
    rw [← hFs] at hl
    clear hF hFs hlen
    go_enter Tryz.func84, Tryz.ntmps84
    go_wp2_with (first | (go_at_call 92; refine ht.mono ?_; rintro e w2 ⟨rfl, hb2⟩))
    go_returns
    unfold TxtPost
    rw [HK.out]
    exact ⟨rfl, hb2⟩
  · have HK : Hid (limN n = (decT n, 0)) := by unfold Hid limN; rw [if_neg hl]
    rw [← hFs] at hl
    clear hF hFs hlen
    go_enter Tryz.func84, Tryz.ntmps84
    go_wp2_with (first | (go_at_call 92; refine ht.mono ?_; rintro e w2 ⟨rfl, hb2⟩))
    go_returns
    unfold TxtPost
    rw [HK.out, ← HF.out]
    exact ⟨rfl, hb2⟩

theorem blk_len_mono {m n : Nat} (h : m ≤ n) : (blk m).length ≤ (blk n).length := by
  have h1 := (digL_length BB_two n (blk n).length).1 (Nat.le_refl _)
  exact (digL_length BB_two m _).2 (by omega)
theorem blk_len_add {m n k : Nat} (hm : (blk m).length ≤ k) (hn : (blk n).length ≤ k) : (blk (m + n)).length ≤ k + 1 := by
  have h1 := (digL_length BB_two m k).1 hm
  have h2 := (digL_length BB_two n k).1 hn
  apply (digL_length BB_two (m + n) (k + 1)).2
  rw [Nat.pow_succ]
  have := Nat.mul_le_mul_left (BB ^ k) BB_two
  omega
theorem blk_len_mul {m n i j : Nat} (hm : (blk m).length ≤ i) (hn : (blk n).length ≤ j) : (blk (m * n)).length ≤ i + j := by
  have h1 := (digL_length BB_two m i).1 hm
  have h2 := (digL_length BB_two n j).1 hn
  apply (digL_length BB_two (m * n) (i + j)).2
  rw [Nat.pow_add]
  exact Nat.mul_lt_mul'' h1 h2
/-! ### what is no number is refused -/
set_option maxHeartbeats 1000000 in
set_option maxRecDepth 100000 in
theorem nadd_bad (a b : ByteArray) (w : World) (ha : a.size ≤ 9223372036854775807) (hb : b.size ≤ 9223372036854775807) (h : ¬ (okN a.data.toList = true ∧ okN b.data.toList = true)) :
    Calls Tryz.prog 80 #[.string a, .string b] w fun e w' => e = .returned (.tuple #[.string ⟨#[]⟩, .int .i64 1]) ∧ w = w' := by
  have va := fun W => nvalid_any a W ha
  have vb := fun W => nvalid_any b W hb
  cases hoa : okN a.data.toList with
  | false =>
    rw [hoa] at va
    clear h hoa
    go_enter Tryz.func80, Tryz.ntmps80
    go_wp2_with (first | (go_at_call_of 37 (Value.string a); refine (va _).mono ?_; rintro e w2 ⟨rfl, rfl⟩))
    go_returns
    exact ⟨rfl, rfl⟩
  | true =>
    cases hob : okN b.data.toList with
    | false =>
      rw [hoa] at va
      rw [hob] at vb
      clear h hoa hob
      go_enter Tryz.func80, Tryz.ntmps80
      go_wp2_with (first | (go_at_call_of 37 (Value.string a); refine (va _).mono ?_; rintro e w2 ⟨rfl, rfl⟩) | (go_at_call_of 37 (Value.string b); refine (vb _).mono ?_; rintro e w2 ⟨rfl, rfl⟩))
      go_returns
      exact ⟨rfl, rfl⟩
    | true => exact absurd ⟨hoa, hob⟩ h
set_option maxHeartbeats 1000000 in
set_option maxRecDepth 100000 in
theorem nsub_bad (a b : ByteArray) (w : World) (ha : a.size ≤ 9223372036854775807) (hb : b.size ≤ 9223372036854775807) (h : ¬ (okN a.data.toList = true ∧ okN b.data.toList = true)) :
    Calls Tryz.prog 82 #[.string a, .string b] w fun e w' => e = .returned (.tuple #[.string ⟨#[]⟩, .int .i64 1]) ∧ w = w' := by
  have va := fun W => nvalid_any a W ha
  have vb := fun W => nvalid_any b W hb
  cases hoa : okN a.data.toList with
  | false =>
    rw [hoa] at va
    clear h hoa
    go_enter Tryz.func82, Tryz.ntmps82
    go_wp2_with (first | (go_at_call_of 37 (Value.string a); refine (va _).mono ?_; rintro e w2 ⟨rfl, rfl⟩))
    go_returns
    exact ⟨rfl, rfl⟩
  | true =>
    cases hob : okN b.data.toList with
    | false =>
      rw [hoa] at va
      rw [hob] at vb
      clear h hoa hob
      go_enter Tryz.func82, Tryz.ntmps82
      go_wp2_with (first | (go_at_call_of 37 (Value.string a); refine (va _).mono ?_; rintro e w2 ⟨rfl, rfl⟩) | (go_at_call_of 37 (Value.string b); refine (vb _).mono ?_; rintro e w2 ⟨rfl, rfl⟩))
      go_returns
      exact ⟨rfl, rfl⟩
    | true => exact absurd ⟨hoa, hob⟩ h
set_option maxHeartbeats 1000000 in
set_option maxRecDepth 100000 in
theorem nmul_bad (a b : ByteArray) (w : World) (ha : a.size ≤ 9223372036854775807) (hb : b.size ≤ 9223372036854775807) (h : ¬ (okN a.data.toList = true ∧ okN b.data.toList = true)) :
    Calls Tryz.prog 52 #[.string a, .string b] w fun e w' => e = .returned (.tuple #[.string ⟨#[]⟩, .int .i64 1]) ∧ w = w' := by
  have va := fun W => nvalid_any a W ha
  have vb := fun W => nvalid_any b W hb
  cases hoa : okN a.data.toList with
  | false =>
    rw [hoa] at va
    clear h hoa
    go_enter Tryz.func52, Tryz.ntmps52
    go_wp2_with (first | (go_at_call_of 37 (Value.string a); refine (va _).mono ?_; rintro e w2 ⟨rfl, rfl⟩))
    go_returns
    exact ⟨rfl, rfl⟩
  | true =>
    cases hob : okN b.data.toList with
    | false =>
      rw [hoa] at va
      rw [hob] at vb
      clear h hoa hob
      go_enter Tryz.func52, Tryz.ntmps52
      go_wp2_with (first | (go_at_call_of 37 (Value.string a); refine (va _).mono ?_; rintro e w2 ⟨rfl, rfl⟩) | (go_at_call_of 37 (Value.string b); refine (vb _).mono ?_; rintro e w2 ⟨rfl, rfl⟩))
      go_returns
      exact ⟨rfl, rfl⟩
    | true => exact absurd ⟨hoa, hob⟩ h
set_option maxHeartbeats 1000000 in
set_option maxRecDepth 100000 in
theorem ngcd_bad (a b : ByteArray) (w : World) (ha : a.size ≤ 9223372036854775807) (hb : b.size ≤ 9223372036854775807) (h : ¬ (okN a.data.toList = true ∧ okN b.data.toList = true)) :
    Calls Tryz.prog 62 #[.string a, .string b] w fun e w' => e = .returned (.tuple #[.string ⟨#[]⟩, .int .i64 1]) ∧ w = w' := by
  have va := fun W => nvalid_any a W ha
  have vb := fun W => nvalid_any b W hb
  cases hoa : okN a.data.toList with
  | false =>
    rw [hoa] at va
    clear h hoa
    go_enter Tryz.func62, Tryz.ntmps62
    go_wp2_with (first | (go_at_call_of 37 (Value.string a); refine (va _).mono ?_; rintro e w2 ⟨rfl, rfl⟩))
    go_returns
    exact ⟨rfl, rfl⟩
  | true =>
    cases hob : okN b.data.toList with
    | false =>
      rw [hoa] at va
      rw [hob] at vb
      clear h hoa hob
      go_enter Tryz.func62, Tryz.ntmps62
      go_wp2_with (first | (go_at_call_of 37 (Value.string a); refine (va _).mono ?_; rintro e w2 ⟨rfl, rfl⟩) | (go_at_call_of 37 (Value.string b); refine (vb _).mono ?_; rintro e w2 ⟨rfl, rfl⟩))
      go_returns
      exact ⟨rfl, rfl⟩
    | true => exact absurd ⟨hoa, hob⟩ h
set_option maxHeartbeats 1000000 in
set_option maxRecDepth 100000 in
theorem ndiv_bad (a b : ByteArray) (w : World) (ha : a.size ≤ 9223372036854775807) (hb : b.size ≤ 9223372036854775807) (h : ¬ (okN a.data.toList = true ∧ okN b.data.toList = true)) :
    Calls Tryz.prog 93 #[.string a, .string b] w fun e w' => e = .returned (.tuple #[.string ⟨#[]⟩, .string ⟨#[]⟩, .int .i64 1]) ∧ w = w' := by
  have va := fun W => nvalid_any a W ha
  have vb := fun W => nvalid_any b W hb
  cases hoa : okN a.data.toList with
  | false =>
    rw [hoa] at va
    clear h hoa
    go_enter Tryz.func93, Tryz.ntmps93
    go_wp2_with (first | (go_at_call_of 37 (Value.string a); refine (va _).mono ?_; rintro e w2 ⟨rfl, rfl⟩))
    go_returns
    exact ⟨rfl, rfl⟩
  | true =>
    cases hob : okN b.data.toList with
    | false =>
      rw [hoa] at va
      rw [hob] at vb
      clear h hoa hob
      go_enter Tryz.func93, Tryz.ntmps93
      go_wp2_with (first | (go_at_call_of 37 (Value.string a); refine (va _).mono ?_; rintro e w2 ⟨rfl, rfl⟩) | (go_at_call_of 37 (Value.string b); refine (vb _).mono ?_; rintro e w2 ⟨rfl, rfl⟩))
      go_returns
      exact ⟨rfl, rfl⟩
    | true => exact absurd ⟨hoa, hob⟩ h
set_option maxHeartbeats 1000000 in
set_option maxRecDepth 100000 in
theorem ncmp_bad (a b : ByteArray) (w : World) (ha : a.size ≤ 9223372036854775807) (hb : b.size ≤ 9223372036854775807) (h : ¬ (okN a.data.toList = true ∧ okN b.data.toList = true)) :
    Calls Tryz.prog 81 #[.string a, .string b] w fun e w' => e = .returned (.int .i64 0) ∧ w = w' := by
  have va := fun W => nvalid_any a W ha
  have vb := fun W => nvalid_any b W hb
  cases hoa : okN a.data.toList with
  | false =>
    rw [hoa] at va
    clear h hoa
    go_enter Tryz.func81, Tryz.ntmps81
    go_wp2_with (first | (go_at_call_of 37 (Value.string a); refine (va _).mono ?_; rintro e w2 ⟨rfl, rfl⟩))
    go_returns
    exact ⟨rfl, rfl⟩
  | true =>
    cases hob : okN b.data.toList with
    | false =>
      rw [hoa] at va
      rw [hob] at vb
      clear h hoa hob
      go_enter Tryz.func81, Tryz.ntmps81
      go_wp2_with (first | (go_at_call_of 37 (Value.string a); refine (va _).mono ?_; rintro e w2 ⟨rfl, rfl⟩) | (go_at_call_of 37 (Value.string b); refine (vb _).mono ?_; rintro e w2 ⟨rfl, rfl⟩))
      go_returns
      exact ⟨rfl, rfl⟩
    | true => exact absurd ⟨hoa, hob⟩ h
set_option maxHeartbeats 1000000 in
set_option maxRecDepth 100000 in
theorem radd_bad (a b : ByteArray) (w : World) (ha : a.size ≤ 9223372036854775807) (hb : b.size ≤ 9223372036854775807) (h : ¬ (okN a.data.toList = true ∧ okN b.data.toList = true)) :
    Calls Tryz.prog 86 #[.string a, .string b] w fun e w' => e = .returned (.tuple #[.string ⟨#[]⟩, .int .i64 1]) ∧ w = w' := by
  have va := fun W => rvalid_any a W ha
  have vb := fun W => rvalid_any b W hb
  cases hoa : okN a.data.toList with
  | false =>
    rw [hoa] at va
    clear h hoa
    go_enter Tryz.func86, Tryz.ntmps86
    go_wp2_with (first | (go_at_call_of 41 (Value.string a); refine (va _).mono ?_; rintro e w2 ⟨rfl, rfl⟩))
    go_returns
    exact ⟨rfl, rfl⟩
  | true =>
    cases hob : okN b.data.toList with
    | false =>
      rw [hoa] at va
      rw [hob] at vb
      clear h hoa hob
      go_enter Tryz.func86, Tryz.ntmps86
      go_wp2_with (first | (go_at_call_of 41 (Value.string a); refine (va _).mono ?_; rintro e w2 ⟨rfl, rfl⟩) | (go_at_call_of 41 (Value.string b); refine (vb _).mono ?_; rintro e w2 ⟨rfl, rfl⟩))
      go_returns
      exact ⟨rfl, rfl⟩
    | true => exact absurd ⟨hoa, hob⟩ h
set_option maxHeartbeats 1000000 in
set_option maxRecDepth 100000 in
theorem rsub_bad (a b : ByteArray) (w : World) (ha : a.size ≤ 9223372036854775807) (hb : b.size ≤ 9223372036854775807) (h : ¬ (okN a.data.toList = true ∧ okN b.data.toList = true)) :
    Calls Tryz.prog 88 #[.string a, .string b] w fun e w' => e = .returned (.tuple #[.string ⟨#[]⟩, .int .i64 1]) ∧ w = w' := by
  have va := fun W => rvalid_any a W ha
  have vb := fun W => rvalid_any b W hb
  cases hoa : okN a.data.toList with
  | false =>
    rw [hoa] at va
    clear h hoa
    go_enter Tryz.func88, Tryz.ntmps88
    go_wp2_with (first | (go_at_call_of 41 (Value.string a); refine (va _).mono ?_; rintro e w2 ⟨rfl, rfl⟩))
    go_returns
    exact ⟨rfl, rfl⟩
  | true =>
    cases hob : okN b.data.toList with
    | false =>
      rw [hoa] at va
      rw [hob] at vb
      clear h hoa hob
      go_enter Tryz.func88, Tryz.ntmps88
      go_wp2_with (first | (go_at_call_of 41 (Value.string a); refine (va _).mono ?_; rintro e w2 ⟨rfl, rfl⟩) | (go_at_call_of 41 (Value.string b); refine (vb _).mono ?_; rintro e w2 ⟨rfl, rfl⟩))
      go_returns
      exact ⟨rfl, rfl⟩
    | true => exact absurd ⟨hoa, hob⟩ h
set_option maxHeartbeats 1000000 in
set_option maxRecDepth 100000 in
theorem rmul_bad (a b : ByteArray) (w : World) (ha : a.size ≤ 9223372036854775807) (hb : b.size ≤ 9223372036854775807) (h : ¬ (okN a.data.toList = true ∧ okN b.data.toList = true)) :
    Calls Tryz.prog 89 #[.string a, .string b] w fun e w' => e = .returned (.tuple #[.string ⟨#[]⟩, .int .i64 1]) ∧ w = w' := by
  have va := fun W => rvalid_any a W ha
  have vb := fun W => rvalid_any b W hb
  cases hoa : okN a.data.toList with
  | false =>
    rw [hoa] at va
    clear h hoa
    go_enter Tryz.func89, Tryz.ntmps89
    go_wp2_with (first | (go_at_call_of 41 (Value.string a); refine (va _).mono ?_; rintro e w2 ⟨rfl, rfl⟩))
    go_returns
    exact ⟨rfl, rfl⟩
  | true =>
    cases hob : okN b.data.toList with
    | false =>
      rw [hoa] at va
      rw [hob] at vb
      clear h hoa hob
      go_enter Tryz.func89, Tryz.ntmps89
      go_wp2_with (first | (go_at_call_of 41 (Value.string a); refine (va _).mono ?_; rintro e w2 ⟨rfl, rfl⟩) | (go_at_call_of 41 (Value.string b); refine (vb _).mono ?_; rintro e w2 ⟨rfl, rfl⟩))
      go_returns
      exact ⟨rfl, rfl⟩
    | true => exact absurd ⟨hoa, hob⟩ h
set_option maxHeartbeats 1000000 in
set_option maxRecDepth 100000 in
theorem rgcd_bad (a b : ByteArray) (w : World) (ha : a.size ≤ 9223372036854775807) (hb : b.size ≤ 9223372036854775807) (h : ¬ (okN a.data.toList = true ∧ okN b.data.toList = true)) :
    Calls Tryz.prog 36 #[.string a, .string b] w fun e w' => e = .returned (.tuple #[.string ⟨#[]⟩, .int .i64 1]) ∧ w = w' := by
  have va := fun W => rvalid_any a W ha
  have vb := fun W => rvalid_any b W hb
  cases hoa : okN a.data.toList with
  | false =>
    rw [hoa] at va
    clear h hoa
    go_enter Tryz.func36, Tryz.ntmps36
    go_wp2_with (first | (go_at_call_of 41 (Value.string a); refine (va _).mono ?_; rintro e w2 ⟨rfl, rfl⟩))
    go_returns
    exact ⟨rfl, rfl⟩
  | true =>
    cases hob : okN b.data.toList with
    | false =>
      rw [hoa] at va
      rw [hob] at vb
      clear h hoa hob
      go_enter Tryz.func36, Tryz.ntmps36
      go_wp2_with (first | (go_at_call_of 41 (Value.string a); refine (va _).mono ?_; rintro e w2 ⟨rfl, rfl⟩) | (go_at_call_of 41 (Value.string b); refine (vb _).mono ?_; rintro e w2 ⟨rfl, rfl⟩))
      go_returns
      exact ⟨rfl, rfl⟩
    | true => exact absurd ⟨hoa, hob⟩ h
set_option maxHeartbeats 1000000 in
set_option maxRecDepth 100000 in
theorem rdiv_bad (a b : ByteArray) (w : World) (ha : a.size ≤ 9223372036854775807) (hb : b.size ≤ 9223372036854775807) (h : ¬ (okN a.data.toList = true ∧ okN b.data.toList = true)) :
    Calls Tryz.prog 42 #[.string a, .string b] w fun e w' => e = .returned (.tuple #[.string ⟨#[]⟩, .string ⟨#[]⟩, .int .i64 1]) ∧ w = w' := by
  have va := fun W => rvalid_any a W ha
  have vb := fun W => rvalid_any b W hb
  cases hoa : okN a.data.toList with
  | false =>
    rw [hoa] at va
    clear h hoa
    go_enter Tryz.func42, Tryz.ntmps42
    go_wp2_with (first | (go_at_call_of 41 (Value.string a); refine (va _).mono ?_; rintro e w2 ⟨rfl, rfl⟩))
    go_returns
    exact ⟨rfl, rfl⟩
  | true =>
    cases hob : okN b.data.toList with
    | false =>
      rw [hoa] at va
      rw [hob] at vb
      clear h hoa hob
      go_enter Tryz.func42, Tryz.ntmps42
      go_wp2_with (first | (go_at_call_of 41 (Value.string a); refine (va _).mono ?_; rintro e w2 ⟨rfl, rfl⟩) | (go_at_call_of 41 (Value.string b); refine (vb _).mono ?_; rintro e w2 ⟨rfl, rfl⟩))
      go_returns
      exact ⟨rfl, rfl⟩
    | true => exact absurd ⟨hoa, hob⟩ h
set_option maxHeartbeats 1000000 in
set_option maxRecDepth 100000 in
theorem rcmp_bad (a b : ByteArray) (w : World) (ha : a.size ≤ 9223372036854775807) (hb : b.size ≤ 9223372036854775807) (h : ¬ (okN a.data.toList = true ∧ okN b.data.toList = true)) :
    Calls Tryz.prog 87 #[.string a, .string b] w fun e w' => e = .returned (.int .i64 0) ∧ w = w' := by
  have va := fun W => rvalid_any a W ha
  have vb := fun W => rvalid_any b W hb
  cases hoa : okN a.data.toList with
  | false =>
    rw [hoa] at va
    clear h hoa
    go_enter Tryz.func87, Tryz.ntmps87
    go_wp2_with (first | (go_at_call_of 41 (Value.string a); refine (va _).mono ?_; rintro e w2 ⟨rfl, rfl⟩))
    go_returns
    exact ⟨rfl, rfl⟩
  | true =>
    cases hob : okN b.data.toList with
    | false =>
      rw [hoa] at va
      rw [hob] at vb
      clear h hoa hob
      go_enter Tryz.func87, Tryz.ntmps87
      go_wp2_with (first | (go_at_call_of 41 (Value.string a); refine (va _).mono ?_; rintro e w2 ⟨rfl, rfl⟩) | (go_at_call_of 41 (Value.string b); refine (vb _).mono ?_; rintro e w2 ⟨rfl, rfl⟩))
      go_returns
      exact ⟨rfl, rfl⟩
    | true => exact absurd ⟨hoa, hob⟩ h
end Go.Proofs.YtfgmjdhoeilhcaaGreatDoor
