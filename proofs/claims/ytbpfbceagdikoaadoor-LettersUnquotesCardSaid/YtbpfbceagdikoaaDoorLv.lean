/- The reference's Unquote: the walk. -/
import Derived.Test.YtbpfbceagdikoaaDoorLu
import Derived.Test.YtbpfbceagdikoaaDoorW11
import Derived.Deep.RegionHeld3
namespace Go.Proofs.YtbpfbceagdikoaaDoor
open Go.RowKit
set_option linter.unusedVariables false

theorem wrapE (x : Int) : IntKind.i64.wrap x = wrap64 x := by rw [IntKind.wrap_i64]; unfold wrap64; rfl
theorem ownS {B : Nat} {e : TypeId} {v : Value} {cs : List Value} {w0 w : World} (h : Own B e v cs w ∧ Below w0.heap.size w0 w) : Own B e v cs w := h.1
theorem belS {B : Nat} {e : TypeId} {v : Value} {cs : List Value} {w0 w : World} (h : Own B e v cs w ∧ Below w0.heap.size w0 w) : Below w0.heap.size w0 w := h.2

set_option maxHeartbeats 4000000 in
set_option maxRecDepth 100000 in
theorem runquote_any (s : ByteArray) (w : World) (hs : s.size ≤ 10000000) :
    Calls Tryd.prog 29 #[.string s] w fun e w' => e = .returned (.tuple #[.string ⟨(unqS (unquoteL s.data.toList)).toArray⟩, .int .i64 (unqE (unquoteL s.data.toList))]) ∧ Below w.heap.size w w' := by
  rw [← refU_eq]
  obtain ⟨i0, hi, hz0, hz1, hz2⟩ := info_parts byteInfo
  by_cases h0 : s.data.toList = [37, 48]
  · have HU : Hid (unqS (refU s.data.toList) = [] ∧ unqE (refU s.data.toList) = 0) := by unfold Hid refU; rw [if_pos h0]; exact ⟨rfl, rfl⟩
    have hq : (s.toList == [37, 48]) = true := by rw [Lib.toList_data, h0]; rfl
    clear h0
    go_enter Tryd.func29, Tryd.ntmps29
    go_wp2_with fail
    go_returns
    exact ⟨by rw [HU.out.1, HU.out.2]; rfl, Below.refl _ _⟩
  · have HU : Hid (refU s.data.toList = if refR s.data.toList = [] ∨ quoteL (refR s.data.toList) ≠ s.data.toList then none else some (refR s.data.toList)) := by unfold Hid refU; rw [if_neg h0]
    have hq : (s.toList == [37, 48]) = false := by rw [Lib.toList_data]; simpa using h0
    clear h0
    go_enter Tryd.func29, Tryd.ntmps29
    go_wp2_with fail
    go_loopw [4, 5] (fun v i wr => ∃ (k : Nat) (done : Bs), i = .int .i64 k ∧ k ≤ s.size ∧ Below w.heap.size w wr ∧ Own w.heap.size 5 v (Lib.byteCells done) wr ∧ done.length ≤ k ∧ Hid (refR s.data.toList = done ++ refR (s.data.toList.drop k))) (fun _ i _ => s.size - (intOf i).toNat)
    case atStart => exact ⟨0, [], rfl, by omega, Below.refl _ _, Own.nil _ _ _, by simp, by simp [Hid]⟩
    case round =>
      obtain ⟨k, done, rfl, hk, hb, hown, hdl, H⟩ := hrel
      by_cases hlt : k < s.size
      · have hx0 := s[k].toNat_lt
        have hd0 := headD_drop s k hlt
        have hln := length_drop_size s k
        by_cases hA : hexAt (s.data.toList.drop k)
        · obtain ⟨a0, a1, a2, a3, a4⟩ := hA
          have hk3 : k + 3 < s.size := by omega
          have hS : stepR (s.data.toList.drop k) = (UInt8.ofNat (16 * digB s[k + 2] + digB s[k + 3]).toNat, 4) := by
            unfold stepR
            rw [if_pos ⟨a0, a1, a2, a3, a4⟩, getD_drop s k 2 (by omega), getD_drop s k 3 (by omega)]
          have HN := Lib.hid (ref_next hlt H.out hS)
          rw [hd0] at a0
          rw [getD_drop s k 1 (by omega)] at a2
          rw [getD_drop s k 2 (by omega)] at a3
          rw [getD_drop s k 3 (by omega)] at a4
          have f0 : (((s[k].toNat : Nat) : Int) == 37) = true := by rw [a0]; rfl
          have f1 : (((s[k + 1].toNat : Nat) : Int) == 120) = true := by rw [a2]; rfl
          obtain ⟨d2, hd2⟩ : ∃ d, digB s[k + 2] = d := ⟨_, rfl⟩
          obtain ⟨d3, hd3⟩ : ∃ d, digB s[k + 3] = d := ⟨_, rfl⟩
          have c2 : ∀ (m : Nat) (h : m < s.size) (W : World), m = k + 2 → Calls Tryd.prog 51 #[.int .u8 s[m].toNat] W fun e w' => e = .returned (.int .i64 d2) ∧ W = w' := fun m h W e => by subst e; rw [← hd2]; exact digit_any _ W
          have c3 : ∀ (m : Nat) (h : m < s.size) (W : World), m = k + 3 → Calls Tryd.prog 51 #[.int .u8 s[m].toNat] W fun e w' => e = .returned (.int .i64 d3) ∧ W = w' := fun m h W e => by subst e; rw [← hd3]; exact digit_any _ W
          have b2 := digB_bd s[k + 2]
          have b3 := digB_bd s[k + 3]
          clear a0 a1 a2 hd0 hln hS H
          rw [hd2] at a3 b2 HN
          rw [hd3] at a4 b3 HN
          clear hd2 hd3
          go_wp2_with fail
          refine (c2 _ _ _ (by omega)).mono ?_
          rintro e wx ⟨rfl, rfl⟩
          go_wp2_with fail
          refine (c3 _ _ _ (by omega)).mono ?_
          rintro e wx ⟨rfl, rfl⟩
          go_wp2_with fail
          have hml : (Lib.byteCells done).length + 1 ≤ maxLen := by rw [Lib.byteCells_length]; unfold maxLen; omega
          have hmb : ((Lib.byteCells done).length + 1) * 1 ≤ 140737488355328 := by rw [Lib.byteCells_length]; omega
          have q2 : IntKind.i64.wrap ((k : Int) + 2) = ((k + 2 : Nat) : Int) := by rw [wrapE, IntWalk.wrap64_in _ ⟨by omega, by omega⟩]; rfl
          have q3 : IntKind.i64.wrap ((k : Int) + 3) = ((k + 3 : Nat) : Int) := by rw [wrapE, IntWalk.wrap64_in _ ⟨by omega, by omega⟩]; rfl
          have q4 : IntKind.i64.wrap (16 * d2) = 16 * d2 := by rw [wrapE, IntWalk.wrap64_in _ ⟨by omega, by omega⟩]
          have q5 : IntKind.i64.wrap (16 * d2 + d3) = 16 * d2 + d3 := by rw [wrapE, IntWalk.wrap64_in _ ⟨by omega, by omega⟩]
          have HQ : Hid (((UInt8.ofNat (16 * d2 + d3).toNat).toNat : Int) = IntKind.u8.wrap (16 * d2 + d3)) := by
            unfold Hid
            rw [IntKind.wrap_u8, UInt8.toNat_ofNat']
            omega
          have j2 : k + 2 < s.size := by omega
          have j3 : k + 3 < s.size := by omega
          go_region_held3 (fun _ => True) (trivial)
            (first
              | (go_at_call 51; refine (c2 _ _ _ (by omega)).mono ?_; rintro e wx ⟨rfl, rfl⟩)
              | (go_at_call 51; refine (c3 _ _ _ (by omega)).mono ?_; rintro e wx ⟨rfl, rfl⟩)
              | (refine step_app1D (by rfl) (.tmp 48) (.tmp 62) 42 (by rfl) w.heap.size i0 _ 1 Tryd.underlying42 hi hz0 hz1 hz2 (by rfl) u4 (Lib.byteCells done) (by rfl) hown 1 (by rfl) (by rfl) hml hmb hb.size ?_; intro v' w' hown' hb'))
          all_goals go_wp2_with fail
          all_goals go_roundw
          all_goals first
            | (case rel => exact ⟨k + 4, done ++ [UInt8.ofNat (16 * d2 + d3).toNat], by go_num, by omega, hb.trans (by assumption), by rw [← byteCells_snoc1, HQ.out]; assumption, by rw [List.length_append]; simp; omega, HN.out⟩)
            | (case measure => simp [intOf]; omega)
        · by_cases hB : s[k].toNat = 37 ∧ k + 1 < s.size
          · obtain ⟨b0, b1⟩ := hB
            have hbd := hA
            have hS : stepR (s.data.toList.drop k) = (s[k + 1], 2) := by
              unfold stepR
              rw [if_neg hA, if_pos ⟨by rw [hd0]; exact UInt8.toNat_inj.1 b0, by omega⟩, getD_drop s k 1 (by omega)]
            have HN := Lib.hid (ref_next hlt H.out hS)
            have f0 : (((s[k].toNat : Nat) : Int) == 37) = true := by rw [b0]; rfl
            have hcase : s.size ≤ k + 3 ∨ ∃ h3 : k + 3 < s.size, ((((s[k + 1].toNat : Nat) : Int) == 120) = false ∨ ((((s[k + 1].toNat : Nat) : Int) == 120) = true ∧ (digB s[k + 2] < 0 ∨ 0 ≤ digB s[k + 2] ∧ digB s[k + 3] < 0))) := by
              rcases Nat.lt_or_ge (k + 3) s.size with h3 | h3
              · refine Or.inr ⟨h3, ?_⟩
                by_cases e1 : s[k + 1].toNat = 120
                · refine Or.inr ⟨by rw [e1]; rfl, ?_⟩
                  rcases Int.lt_or_le (digB s[k + 2]) 0 with e2 | e2
                  · exact Or.inl e2
                  · refine Or.inr ⟨e2, ?_⟩
                    rcases Int.lt_or_le (digB s[k + 3]) 0 with e3 | e3
                    · exact e3
                    · exfalso; apply hA
                      exact ⟨by rw [hd0]; exact UInt8.toNat_inj.1 b0, by omega, by rw [getD_drop s k 1 (by omega)]; exact UInt8.toNat_inj.1 e1, by rw [getD_drop s k 2 (by omega)]; exact e2, by rw [getD_drop s k 3 (by omega)]; exact e3⟩
                · exact Or.inl (by simp; omega)
              · exact Or.inl h3
            have hx1 := s[k + 1].toNat_lt
            clear hA hbd hd0 hln hS b0 H
            have hml : (Lib.byteCells done).length + 1 ≤ maxLen := by rw [Lib.byteCells_length]; unfold maxLen; omega
            have hmb : ((Lib.byteCells done).length + 1) * 1 ≤ 140737488355328 := by rw [Lib.byteCells_length]; omega
            rcases hcase with h3 | ⟨h3, h4 | ⟨h4, h5 | ⟨h5, h6⟩⟩⟩
            · go_wp2_with (at_builtin; refine wpList_app1 rfl (.tmp 77) (.tmp 82) 42 rfl w.heap.size i0 _ 1 Tryd.underlying42 hi hz0 hz1 hz2 rfl _ (Lib.byteCells done) rfl hown 1 rfl rfl hml hmb hb.size ?_; intro v' w' hown' _ hb')
              go_roundw
              case rel => exact ⟨k + 2, done ++ [s[k + 1]], by go_num, by omega, hb.trans hb', by rw [← byteCells_snoc1]; exact hown', by rw [List.length_append]; simp; omega, HN.out⟩
              case measure => simp [intOf]; omega
            · go_wp2_with (at_builtin; refine wpList_app1 rfl (.tmp 77) (.tmp 82) 42 rfl w.heap.size i0 _ 1 Tryd.underlying42 hi hz0 hz1 hz2 rfl _ (Lib.byteCells done) rfl hown 1 rfl rfl hml hmb hb.size ?_; intro v' w' hown' _ hb')
              go_roundw
              case rel => exact ⟨k + 2, done ++ [s[k + 1]], by go_num, by omega, hb.trans hb', by rw [← byteCells_snoc1]; exact hown', by rw [List.length_append]; simp; omega, HN.out⟩
              case measure => simp [intOf]; omega
            · have c2 := fun W => digit_any s[k + 2] W
              generalize digB s[k + 2] = d2 at c2 h5
              go_wp2_with fail
              refine (c2 _).mono ?_
              rintro e wx ⟨rfl, rfl⟩
              go_wp2_with (at_builtin; refine wpList_app1 rfl (.tmp 77) (.tmp 82) 42 rfl w.heap.size i0 _ 1 Tryd.underlying42 hi hz0 hz1 hz2 rfl _ (Lib.byteCells done) rfl hown 1 rfl rfl hml hmb hb.size ?_; intro v' w' hown' _ hb')
              go_roundw
              case rel => exact ⟨k + 2, done ++ [s[k + 1]], by go_num, by omega, hb.trans hb', by rw [← byteCells_snoc1]; exact hown', by rw [List.length_append]; simp; omega, HN.out⟩
              case measure => simp [intOf]; omega
            · have c2 := fun W => digit_any s[k + 2] W
              have c3 := fun W => digit_any s[k + 3] W
              generalize digB s[k + 2] = d2 at c2 h5
              generalize digB s[k + 3] = d3 at c3 h6
              go_wp2_with fail
              refine (c2 _).mono ?_
              rintro e wx ⟨rfl, rfl⟩
              go_wp2_with fail
              refine (c3 _).mono ?_
              rintro e wx ⟨rfl, rfl⟩
              go_wp2_with (at_builtin; refine wpList_app1 rfl (.tmp 77) (.tmp 82) 42 rfl w.heap.size i0 _ 1 Tryd.underlying42 hi hz0 hz1 hz2 rfl _ (Lib.byteCells done) rfl hown 1 rfl rfl hml hmb hb.size ?_; intro v' w' hown' _ hb')
              go_roundw
              case rel => exact ⟨k + 2, done ++ [s[k + 1]], by go_num, by omega, hb.trans hb', by rw [← byteCells_snoc1]; exact hown', by rw [List.length_append]; simp; omega, HN.out⟩
              case measure => simp [intOf]; omega
          · have hS : stepR (s.data.toList.drop k) = (s[k], 1) := by
              unfold stepR
              rw [if_neg hA, if_neg (fun hh => hB ⟨by rw [← hd0, hh.1]; rfl, by omega⟩), hd0]
            have HN := Lib.hid (ref_next hlt H.out hS)
            have hcase : (((s[k].toNat : Nat) : Int) == 37) = false ∨ (((s[k].toNat : Nat) : Int) == 37) = true ∧ s.size ≤ k + 1 := by
              by_cases e : s[k].toNat = 37
              · exact Or.inr ⟨by rw [e]; rfl, by rcases Nat.lt_or_ge (k + 1) s.size with h | h; exact absurd ⟨e, h⟩ hB; exact h⟩
              · exact Or.inl (by simp; omega)
            clear hA hB hd0 hln hS H
            have hml : (Lib.byteCells done).length + 1 ≤ maxLen := by rw [Lib.byteCells_length]; unfold maxLen; omega
            have hmb : ((Lib.byteCells done).length + 1) * 1 ≤ 140737488355328 := by rw [Lib.byteCells_length]; omega
            rcases hcase with h3 | ⟨h3, h4⟩
            all_goals
              go_wp2_with (at_builtin; refine wpList_app1 rfl (.tmp 86) (.tmp 90) 42 rfl w.heap.size i0 _ 1 Tryd.underlying42 hi hz0 hz1 hz2 rfl _ (Lib.byteCells done) rfl hown 1 rfl rfl hml hmb hb.size ?_; intro v' w' hown' _ hb')
              go_roundw
              case rel => exact ⟨k + 1, done ++ [s[k]], by go_num, by omega, hb.trans hb', by rw [← byteCells_snoc1]; exact hown', by rw [List.length_append]; simp; omega, HN.out⟩
              case measure => simp [intOf]; omega
      · obtain rfl : k = s.size := by omega
        have hcv := own_string Tryd.underlying42 Tryd.underlying5 Tryd.underlying9 hown
        have hend : refR s.data.toList = done := by
          have := H.out
          rw [List.drop_of_length_le (by rw [← Lib.size_eq]; exact Nat.le_refl _), refR_nil, List.append_nil] at this
          exact this
        rw [hend] at HU
        have hqt := fun W => rquote_any ⟨done.toArray⟩ W (by rw [Lib.size_eq]; show done.length ≤ _; omega)
        have hqd : (⟨done.toArray⟩ : ByteArray).data.toList = done := rfl
        rw [hqd] at hqt
        obtain ⟨Q, hQ⟩ : ∃ Q, quoteL done = Q := ⟨_, rfl⟩
        rw [hQ] at hqt
        have HQ := Lib.hid hQ
        clear hQ hend hqd H
        have hlen := Lib.byteCells_length done
        have hown0 := hown
        by_cases hd : done = []
        · have HN : Hid (refU s.data.toList = none) := by rw [Hid, HU.out, if_pos (Or.inl hd)]
          have hl0 : (Lib.byteCells done).length = 0 := by rw [hlen, hd]; rfl
          clear hd hqt HQ
          rcases hown0.2 with ⟨rfl, _⟩ | ⟨g, cap, cur, rfl, _, _, _, _, _, _⟩
          · clear hown hown0 hcv
            go_wp2_with fail
            go_returns
            exact ⟨by rw [HN.out]; rfl, hb⟩
          · rw [hl0] at hcv ⊢
            clear hown hown0 hlen hcv
            go_wp2_with fail
            go_returns
            exact ⟨by rw [HN.out]; rfl, hb⟩
        · have hl1 : 0 < (Lib.byteCells done).length := by rw [hlen]; exact List.length_pos_iff.2 hd
          rcases hown0.2 with ⟨rfl, h0⟩ | ⟨g, cap, cur, rfl, _, _, _, _, _, _⟩
          · omega
          · clear hown0
            rw [hlen] at hcv hl1 ⊢
            by_cases hq2 : Q = s.data.toList
            · have HN : Hid (refU s.data.toList = some done) := by
                rw [Hid, HU.out, if_neg]
                rintro (h | h)
                · exact hd h
                · exact h (by rw [HQ.out]; exact hq2)
              have hx : (Q == s.toList) = true := by rw [Lib.toList_data, hq2]; exact beq_self_eq_true _
              clear hq2 HQ HU
              go_wp2_with (go_at_call 28; refine (hqt _).mono ?_; rintro e w1 ⟨rfl, hb1⟩; have hbA := bstep hb hb1; have hcv1 := own_string Tryd.underlying42 Tryd.underlying5 Tryd.underlying9 (hown.below hb1); rw [hlen] at hcv1)
              go_returns
              exact ⟨by rw [HN.out]; rfl, hbA⟩
            · have HN : Hid (refU s.data.toList = none) := by
                rw [Hid, HU.out, if_pos]
                exact Or.inr fun h => hq2 (by rw [← HQ.out]; exact h)
              have hx : (Q == s.toList) = false := by rw [Lib.toList_data]; simpa using hq2
              clear hq2 HQ HU
              go_wp2_with (go_at_call 28; refine (hqt _).mono ?_; rintro e w1 ⟨rfl, hb1⟩; have hbA := bstep hb hb1)
              go_returns
              exact ⟨by rw [HN.out]; rfl, hbA⟩
end Go.Proofs.YtbpfbceagdikoaaDoor
