/- The reference's Unquote: its helper and the append of one byte. -/
import Derived.Test.YtplipnchkkhdaaaGreatDoorZ19
import Derived.Test.YtplipnchkkhdaaaGreatDoorZ01
import Derived.Deep.RegionHeld3
import Derived.Test.YtplipnchkkhdaaaGreatDoorZ02
import Derived.Test.YtplipnchkkhdaaaGreatDoorZ04
import Derived.BigRegion
import Derived.Test.YtplipnchkkhdaaaGreatDoorZ15
import Derived.Test.YtplipnchkkhdaaaGreatDoorZ06
import Derived.Deep.QuietTactic
import Derived.BigQuiet
import Derived.Deep.RegionLaw
import Derived.Deep.RegionHeldLaw
import Derived.Test.YtplipnchkkhdaaaGreatDoorZ13
import Derived.Test.YtplipnchkkhdaaaGreatDoorZ16
namespace Go.Proofs.YtplipnchkkhdaaaGreatDoor
open Go.RowKit
set_option linter.unusedVariables false

set_option maxHeartbeats 1000000 in
set_option maxRecDepth 100000 in
theorem digit_any (c : UInt8) (w : World) :
    Calls Tryz.prog 97 #[.int .u8 c.toNat] w fun e w' => e = .returned (.int .i64 (digB c)) ∧ w = w' := by
  have hlt := UInt8.toNat_lt c
  have hD : Hid (digB c = if 48 ≤ c.toNat ∧ c.toNat ≤ 57 then (c.toNat : Int) - 48 else if 97 ≤ c.toNat ∧ c.toNat ≤ 102 then (c.toNat : Int) - 87 else -1) := rfl
  obtain ⟨n, hn⟩ : ∃ n, c.toNat = n := ⟨_, rfl⟩
  rw [hn] at hD hlt ⊢
  generalize digB c = d at hD
  by_cases h1 : 48 ≤ n ∧ n ≤ 57
  · have e : Hid (d = (n : Int) - 48) := by rw [Hid, hD.out, if_pos h1]
    clear hD hn
    obtain ⟨h1, h2⟩ := h1
    go_enter Tryz.func97, Tryz.ntmps97
    go_wp2
    go_returns
    exact ⟨ret_int (by rw [e.out]), rfl⟩
  · by_cases h2 : 97 ≤ n ∧ n ≤ 102
    · have e : Hid (d = (n : Int) - 87) := by rw [Hid, hD.out, if_neg h1, if_pos h2]
      have h3 : ¬ n ≤ 57 := by omega
      clear hD hn h1
      obtain ⟨h1, h2⟩ := h2
      go_enter Tryz.func97, Tryz.ntmps97
      go_wp2
      go_returns
      exact ⟨ret_int (by rw [e.out]; omega), rfl⟩
    · have e : Hid (d = -1) := by rw [Hid, hD.out, if_neg h1, if_neg h2]
      have h3 : n < 48 ∨ (57 < n ∧ n < 97) ∨ 102 < n := by omega
      clear hD hn h1 h2
      rcases h3 with h3 | ⟨h3, h4⟩ | h3
      all_goals
        go_enter Tryz.func97, Tryz.ntmps97
        go_wp2
        go_returns
        exact ⟨ret_int (by rw [e.out]), rfl⟩

section
variable {P : Program}
/-- append of one element that has just been laid in a block of its own, at a step of a region that draws -/
theorem step_app1 {ops : Array Oper} {o : Oper} {a : Act} {K : Act → World → Prop} {Q : Exit → Act → World → Prop} {E : Prop} {w : World} {e : TypeId} {u : Value} (hgd : o.guard = none) (s x : Operand) (t : TypeId)
    (ho : o.op = .call { callee := .builtin .append, args := #[s, x], argTypes := #[t, t] })
    (B : Nat) (i : TypeInfo) (z : Value) (bytes : Nat) (ht : P.underlying t = some (.slice e)) (hi : P.info? e = some i) (hz : i.zero = some z)
    (hsize : i.size = 1) (hby : i.bytes = bytes) (hzs : z.cells.size = 1)
    (v : Value) (cs : List Value) (hs : a.eval s = v) (hown : Own B e v cs w) (c : Nat) (hx : a.eval x = .slice (some ⟨w.heap.size, 0, none⟩) 1 c) (h1 : u.oneCell' = true)
    (hb1 : cs.length + 1 ≤ maxLen) (hbytes : (cs.length + 1) * bytes ≤ 140737488355328) (hB : B ≤ w.heap.size)
    (h : ∀ v' w', Own B e v' (cs ++ [u]) w' → Below B w w' → K (a.put o.dst v') w') :
    if Region.wanted o (yielded ops a.tmps) = true then Oper.wp P o a (w.alloc (.cells #[u] e)) K Q else E := by
  have hw : Region.wanted o (yielded ops a.tmps) = true := by simp [Region.wanted, hgd]
  rw [if_pos hw]
  refine wp_append_own _ s x t ho B e i z 1 bytes ht hi hz hsize hby hzs (by decide) v cs.length cs hs (hown.alloc _) ⟨w.heap.size, 0, none⟩ 1 c [u] hx rfl ?_ ?_ hb1 hbytes (by simp; omega) ?_
  · intro j y hy
    match j, hy with
    | 0, hy => simp at hy; subst hy; simp [Addr.add]
  · intro y hy; simp at hy; subst hy; exact h1
  · intro v' w' h2 h3 h4
    have hg : w.grownBy w' v.ownBlock := ⟨h3.os, h3.tape, h3.output, Nat.le_trans (by simp) h3.size, fun k hk hne => (h3.block k (by simp; omega) hne).trans (Below.heap_alloc w _ k hk)⟩
    refine h v' w' (by unfold Own; rw [List.length_append]; exact h2) ?_
    exact (Below.refl B w).grown hg hB (fun k hk => (hown.lt k hk).1)
/-- the same behind a draw -/
theorem step_app1D {ops : Array Oper} {o : Oper} {a : Act} {K : Act → World → Prop} {Q : Exit → Act → World → Prop} {E : Prop} {w : World} {e : TypeId} {u : Value} (hgd : o.guard = none) (s x : Operand) (t : TypeId)
    (ho : o.op = .call { callee := .builtin .append, args := #[s, x], argTypes := #[t, t] })
    (B : Nat) (i : TypeInfo) (z : Value) (bytes : Nat) (ht : P.underlying t = some (.slice e)) (hi : P.info? e = some i) (hz : i.zero = some z)
    (hsize : i.size = 1) (hby : i.bytes = bytes) (hzs : z.cells.size = 1)
    (v : Value) (cs : List Value) (hs : a.eval s = v) (hown : Own B e v cs w) (c : Nat) (hx : a.eval x = .slice (some ⟨w.heap.size, 0, none⟩) 1 c) (h1 : u.oneCell' = true)
    (hb1 : cs.length + 1 ≤ maxLen) (hbytes : (cs.length + 1) * bytes ≤ 140737488355328) (hB : B ≤ w.heap.size)
    (h : ∀ v' w', Own B e v' (cs ++ [u]) w' → Below B w w' → K (a.put o.dst v') w') :
    if Region.wanted o (yielded ops a.tmps) = true then Oper.wp P o a (w.alloc (.cells #[u] e)).drew K Q else E :=
  step_app1 (w := w.drew) hgd s x t ho B i z bytes ht hi hz hsize hby hzs v cs hs hown c hx h1 hb1 hbytes hB (fun v' w' h2 h3 => h v' w' h2 ((Below.refl B w).drew.trans h3))
end


theorem headD_drop (s : ByteArray) (k : Nat) (h : k < s.size) : (s.data.toList.drop k).headD 0 = s[k] := by rw [drop_byte s k h]; rfl
theorem getD_drop (s : ByteArray) (k j : Nat) (h : k + j < s.size) : (s.data.toList.drop k).getD j 0 = s[k + j] := by
  have e : (s.data.toList.drop k).getD j 0 = ((s.data.toList.drop k).drop j).headD 0 := by
    rw [List.getD_eq_getElem?_getD, List.headD_eq_head?_getD, List.head?_drop]
  rw [e, List.drop_drop, headD_drop s (k + j) h]
theorem length_drop_size (s : ByteArray) (k : Nat) : (s.data.toList.drop k).length = s.size - k := by rw [List.length_drop, ← Lib.size_eq]
/-- one step of the reader, at a place of a string -/
theorem ref_next {s : ByteArray} {k : Nat} {done : Bs} {x : UInt8} {m : Nat} (h : k < s.size) (H : refR s.data.toList = done ++ refR (s.data.toList.drop k)) (hs : stepR (s.data.toList.drop k) = (x, m)) :
    refR s.data.toList = (done ++ [x]) ++ refR (s.data.toList.drop (k + m)) := by
  have hne : s.data.toList.drop k ≠ [] := by intro e; have := length_drop_size s k; rw [e] at this; simp at this; omega
  rw [H, refR_step _ hne, hs, List.append_assoc, List.drop_drop]; rfl

/- The reference's Unquote: the walk. -/
open Go.RowKit
set_option linter.unusedVariables false

theorem wrapE (x : Int) : IntKind.i64.wrap x = wrap64 x := by rw [IntKind.wrap_i64]; unfold wrap64; rfl
theorem ownS {B : Nat} {e : TypeId} {v : Value} {cs : List Value} {w0 w : World} (h : Own B e v cs w ∧ Below w0.heap.size w0 w) : Own B e v cs w := h.1
theorem belS {B : Nat} {e : TypeId} {v : Value} {cs : List Value} {w0 w : World} (h : Own B e v cs w ∧ Below w0.heap.size w0 w) : Below w0.heap.size w0 w := h.2

set_option maxHeartbeats 4000000 in
set_option maxRecDepth 100000 in
theorem runquote_any (s : ByteArray) (w : World) (hs : s.size ≤ 10000000) :
    Calls Tryz.prog 67 #[.string s] w fun e w' => e = .returned (.tuple #[.string ⟨(unqS (unquoteL s.data.toList)).toArray⟩, .int .i64 (unqE (unquoteL s.data.toList))]) ∧ Below w.heap.size w w' := by
  rw [← refU_eq]
  obtain ⟨i0, hi, hz0, hz1, hz2⟩ := info_parts byteInfo
  by_cases h0 : s.data.toList = [37, 48]
  · have HU : Hid (unqS (refU s.data.toList) = [] ∧ unqE (refU s.data.toList) = 0) := by unfold Hid refU; rw [if_pos h0]; exact ⟨rfl, rfl⟩
    have hq : (s.toList == [37, 48]) = true := by rw [Lib.toList_data, h0]; rfl
    clear h0
    go_enter Tryz.func67, Tryz.ntmps67
    go_wp2_with fail
    go_returns
    exact ⟨by rw [HU.out.1, HU.out.2]; rfl, Below.refl _ _⟩
  · have HU : Hid (refU s.data.toList = if refR s.data.toList = [] ∨ quoteL (refR s.data.toList) ≠ s.data.toList then none else some (refR s.data.toList)) := by unfold Hid refU; rw [if_neg h0]
    have hq : (s.toList == [37, 48]) = false := by rw [Lib.toList_data]; simpa using h0
    clear h0
    go_enter Tryz.func67, Tryz.ntmps67
    go_wp2_with fail
    go_loopw [4, 5] (fun v i wr => ∃ (k : Nat) (done : Bs), i = .int .i64 k ∧ k ≤ s.size ∧ Below w.heap.size w wr ∧ Own w.heap.size 5 v (Lib.byteCells done) wr ∧ done.length ≤ k ∧ Hid (refR s.data.toList = done ++ refR (s.data.toList.drop k))) (fun _ i _ => s.size - (intOf i).toNat)
    case atStart => exact ⟨0, [], rfl, by omega, Below.refl _ _, Own.nil _ _ _, by simp, by simp [Hid]⟩
    case round =>
      obtain ⟨k, done, rfl, hk, hb, hown, hdl, H⟩ := hrel
      by_cases hlt : k < s.size
      · have hx0 := s[k].toNat_lt
        have hd0 := headD_drop s k hlt
        have hln := length_drop_size s k
        by_cases hA : hexAt (s.data.toList.drop k)
        · obtain ⟨a0, a1, a2, a3, a4⟩ := hA
          have hk3 : k + 3 < s.size := by omega
          have hS : stepR (s.data.toList.drop k) = (UInt8.ofNat (16 * digB s[k + 2] + digB s[k + 3]).toNat, 4) := by
            unfold stepR
            rw [if_pos ⟨a0, a1, a2, a3, a4⟩, getD_drop s k 2 (by omega), getD_drop s k 3 (by omega)]
          have HN := Lib.hid (ref_next hlt H.out hS)
          rw [hd0] at a0
          rw [getD_drop s k 1 (by omega)] at a2
          rw [getD_drop s k 2 (by omega)] at a3
          rw [getD_drop s k 3 (by omega)] at a4
          have f0 : (((s[k].toNat : Nat) : Int) == 37) = true := by rw [a0]; rfl
          have f1 : (((s[k + 1].toNat : Nat) : Int) == 120) = true := by rw [a2]; rfl
          obtain ⟨d2, hd2⟩ : ∃ d, digB s[k + 2] = d := ⟨_, rfl⟩
          obtain ⟨d3, hd3⟩ : ∃ d, digB s[k + 3] = d := ⟨_, rfl⟩
          have c2 : ∀ (m : Nat) (h : m < s.size) (W : World), m = k + 2 → Calls Tryz.prog 97 #[.int .u8 s[m].toNat] W fun e w' => e = .returned (.int .i64 d2) ∧ W = w' := fun m h W e => by subst e; rw [← hd2]; exact digit_any _ W
          have c3 : ∀ (m : Nat) (h : m < s.size) (W : World), m = k + 3 → Calls Tryz.prog 97 #[.int .u8 s[m].toNat] W fun e w' => e = .returned (.int .i64 d3) ∧ W = w' := fun m h W e => by subst e; rw [← hd3]; exact digit_any _ W
          have b2 := digB_bd s[k + 2]
          have b3 := digB_bd s[k + 3]
          clear a0 a1 a2 hd0 hln hS H
          rw [hd2] at a3 b2 HN
          rw [hd3] at a4 b3 HN
          clear hd2 hd3
          go_wp2_with fail
          refine (c2 _ _ _ (by omega)).mono ?_
          rintro e wx ⟨rfl, rfl⟩
          go_wp2_with fail
          refine (c3 _ _ _ (by omega)).mono ?_
          rintro e wx ⟨rfl, rfl⟩
          go_wp2_with fail
          have hml : (Lib.byteCells done).length + 1 ≤ maxLen := by rw [Lib.byteCells_length]; unfold maxLen; omega
          have hmb : ((Lib.byteCells done).length + 1) * 1 ≤ 140737488355328 := by rw [Lib.byteCells_length]; omega
          have q2 : IntKind.i64.wrap ((k : Int) + 2) = ((k + 2 : Nat) : Int) := by rw [wrapE, IntWalk.wrap64_in _ ⟨by omega, by omega⟩]; rfl
          have q3 : IntKind.i64.wrap ((k : Int) + 3) = ((k + 3 : Nat) : Int) := by rw [wrapE, IntWalk.wrap64_in _ ⟨by omega, by omega⟩]; rfl
          have q4 : IntKind.i64.wrap (16 * d2) = 16 * d2 := by rw [wrapE, IntWalk.wrap64_in _ ⟨by omega, by omega⟩]
          have q5 : IntKind.i64.wrap (16 * d2 + d3) = 16 * d2 + d3 := by rw [wrapE, IntWalk.wrap64_in _ ⟨by omega, by omega⟩]
          have HQ : Hid (((UInt8.ofNat (16 * d2 + d3).toNat).toNat : Int) = IntKind.u8.wrap (16 * d2 + d3)) := by
            unfold Hid
            rw [IntKind.wrap_u8, UInt8.toNat_ofNat']
            omega
          have j2 : k + 2 < s.size := by omega
          have j3 : k + 3 < s.size := by omega
          go_region_held3 (fun _ => True) (trivial)
            (first
              | (go_at_call 97; refine (c2 _ _ _ (by omega)).mono ?_; rintro e wx ⟨rfl, rfl⟩)
              | (go_at_call 97; refine (c3 _ _ _ (by omega)).mono ?_; rintro e wx ⟨rfl, rfl⟩)
              | (refine step_app1D (by rfl) (.tmp 48) (.tmp 62) 67 (by rfl) w.heap.size i0 _ 1 Tryz.underlying67 hi hz0 hz1 hz2 (by rfl) u4 (Lib.byteCells done) (by rfl) hown 1 (by rfl) (by rfl) hml hmb hb.size ?_; intro v' w' hown' hb'))
          all_goals go_wp2_with fail
          all_goals go_roundw
          all_goals first
            | (case rel => exact ⟨k + 4, done ++ [UInt8.ofNat (16 * d2 + d3).toNat], by go_num, by omega, hb.trans (by assumption), by rw [← byteCells_snoc1, HQ.out]; assumption, by rw [List.length_append]; simp; omega, HN.out⟩)
            | (case measure => simp [intOf]; omega)
        · by_cases hB : s[k].toNat = 37 ∧ k + 1 < s.size
          · obtain ⟨b0, b1⟩ := hB
            have hbd := hA
            have hS : stepR (s.data.toList.drop k) = (s[k + 1], 2) := by
              unfold stepR
              rw [if_neg hA, if_pos ⟨by rw [hd0]; exact UInt8.toNat_inj.1 b0, by omega⟩, getD_drop s k 1 (by omega)]
            have HN := Lib.hid (ref_next hlt H.out hS)
            have f0 : (((s[k].toNat : Nat) : Int) == 37) = true := by rw [b0]; rfl
            have hcase : s.size ≤ k + 3 ∨ ∃ h3 : k + 3 < s.size, ((((s[k + 1].toNat : Nat) : Int) == 120) = false ∨ ((((s[k + 1].toNat : Nat) : Int) == 120) = true ∧ (digB s[k + 2] < 0 ∨ 0 ≤ digB s[k + 2] ∧ digB s[k + 3] < 0))) := by
              rcases Nat.lt_or_ge (k + 3) s.size with h3 | h3
              · refine Or.inr ⟨h3, ?_⟩
                by_cases e1 : s[k + 1].toNat = 120
                · refine Or.inr ⟨by rw [e1]; rfl, ?_⟩
                  rcases Int.lt_or_le (digB s[k + 2]) 0 with e2 | e2
                  · exact Or.inl e2
                  · refine Or.inr ⟨e2, ?_⟩
                    rcases Int.lt_or_le (digB s[k + 3]) 0 with e3 | e3
                    · exact e3
                    · exfalso; apply hA
                      exact ⟨by rw [hd0]; exact UInt8.toNat_inj.1 b0, by omega, by rw [getD_drop s k 1 (by omega)]; exact UInt8.toNat_inj.1 e1, by rw [getD_drop s k 2 (by omega)]; exact e2, by rw [getD_drop s k 3 (by omega)]; exact e3⟩
                · exact Or.inl (by simp; omega)
              · exact Or.inl h3
            have hx1 := s[k + 1].toNat_lt
            clear hA hbd hd0 hln hS b0 H
            have hml : (Lib.byteCells done).length + 1 ≤ maxLen := by rw [Lib.byteCells_length]; unfold maxLen; omega
            have hmb : ((Lib.byteCells done).length + 1) * 1 ≤ 140737488355328 := by rw [Lib.byteCells_length]; omega
            rcases hcase with h3 | ⟨h3, h4 | ⟨h4, h5 | ⟨h5, h6⟩⟩⟩
            · go_wp2_with (at_builtin; refine wpList_app1 rfl (.tmp 77) (.tmp 82) 67 rfl w.heap.size i0 _ 1 Tryz.underlying67 hi hz0 hz1 hz2 rfl _ (Lib.byteCells done) rfl hown 1 rfl rfl hml hmb hb.size ?_; intro v' w' hown' _ hb')
              go_roundw
              case rel => exact ⟨k + 2, done ++ [s[k + 1]], by go_num, by omega, hb.trans hb', by rw [← byteCells_snoc1]; exact hown', by rw [List.length_append]; simp; omega, HN.out⟩
              case measure => simp [intOf]; omega
            · go_wp2_with (at_builtin; refine wpList_app1 rfl (.tmp 77) (.tmp 82) 67 rfl w.heap.size i0 _ 1 Tryz.underlying67 hi hz0 hz1 hz2 rfl _ (Lib.byteCells done) rfl hown 1 rfl rfl hml hmb hb.size ?_; intro v' w' hown' _ hb')
              go_roundw
              case rel => exact ⟨k + 2, done ++ [s[k + 1]], by go_num, by omega, hb.trans hb', by rw [← byteCells_snoc1]; exact hown', by rw [List.length_append]; simp; omega, HN.out⟩
              case measure => simp [intOf]; omega
            · have c2 := fun W => digit_any s[k + 2] W
              generalize digB s[k + 2] = d2 at c2 h5
              go_wp2_with fail
              refine (c2 _).mono ?_
              rintro e wx ⟨rfl, rfl⟩
              go_wp2_with (at_builtin; refine wpList_app1 rfl (.tmp 77) (.tmp 82) 67 rfl w.heap.size i0 _ 1 Tryz.underlying67 hi hz0 hz1 hz2 rfl _ (Lib.byteCells done) rfl hown 1 rfl rfl hml hmb hb.size ?_; intro v' w' hown' _ hb')
              go_roundw
              case rel => exact ⟨k + 2, done ++ [s[k + 1]], by go_num, by omega, hb.trans hb', by rw [← byteCells_snoc1]; exact hown', by rw [List.length_append]; simp; omega, HN.out⟩
              case measure => simp [intOf]; omega
            · have c2 := fun W => digit_any s[k + 2] W
              have c3 := fun W => digit_any s[k + 3] W
              generalize digB s[k + 2] = d2 at c2 h5
              generalize digB s[k + 3] = d3 at c3 h6
              go_wp2_with fail
              refine (c2 _).mono ?_
              rintro e wx ⟨rfl, rfl⟩
              go_wp2_with fail
              refine (c3 _).mono ?_
              rintro e wx ⟨rfl, rfl⟩
              go_wp2_with (at_builtin; refine wpList_app1 rfl (.tmp 77) (.tmp 82) 67 rfl w.heap.size i0 _ 1 Tryz.underlying67 hi hz0 hz1 hz2 rfl _ (Lib.byteCells done) rfl hown 1 rfl rfl hml hmb hb.size ?_; intro v' w' hown' _ hb')
              go_roundw
              case rel => exact ⟨k + 2, done ++ [s[k + 1]], by go_num, by omega, hb.trans hb', by rw [← byteCells_snoc1]; exact hown', by rw [List.length_append]; simp; omega, HN.out⟩
              case measure => simp [intOf]; omega
          · have hS : stepR (s.data.toList.drop k) = (s[k], 1) := by
              unfold stepR
              rw [if_neg hA, if_neg (fun hh => hB ⟨by rw [← hd0, hh.1]; rfl, by omega⟩), hd0]
            have HN := Lib.hid (ref_next hlt H.out hS)
            have hcase : (((s[k].toNat : Nat) : Int) == 37) = false ∨ (((s[k].toNat : Nat) : Int) == 37) = true ∧ s.size ≤ k + 1 := by
              by_cases e : s[k].toNat = 37
              · exact Or.inr ⟨by rw [e]; rfl, by rcases Nat.lt_or_ge (k + 1) s.size with h | h; exact absurd ⟨e, h⟩ hB; exact h⟩
              · exact Or.inl (by simp; omega)
            clear hA hB hd0 hln hS H
            have hml : (Lib.byteCells done).length + 1 ≤ maxLen := by rw [Lib.byteCells_length]; unfold maxLen; omega
            have hmb : ((Lib.byteCells done).length + 1) * 1 ≤ 140737488355328 := by rw [Lib.byteCells_length]; omega
            rcases hcase with h3 | ⟨h3, h4⟩
            all_goals
              go_wp2_with (at_builtin; refine wpList_app1 rfl (.tmp 86) (.tmp 90) 67 rfl w.heap.size i0 _ 1 Tryz.underlying67 hi hz0 hz1 hz2 rfl _ (Lib.byteCells done) rfl hown 1 rfl rfl hml hmb hb.size ?_; intro v' w' hown' _ hb')
              go_roundw
              case rel => exact ⟨k + 1, done ++ [s[k]], by go_num, by omega, hb.trans hb', by rw [← byteCells_snoc1]; exact hown', by rw [List.length_append]; simp; omega, HN.out⟩
              case measure => simp [intOf]; omega
      · obtain rfl : k = s.size := by omega
        have hcv := own_string Tryz.underlying67 Tryz.underlying5 Tryz.underlying9 hown
        have hend : refR s.data.toList = done := by
          have := H.out
          rw [List.drop_of_length_le (by rw [← Lib.size_eq]; exact Nat.le_refl _), refR_nil, List.append_nil] at this
          exact this
        rw [hend] at HU
        have hqt := fun W => rquote_any ⟨done.toArray⟩ W (by rw [Lib.size_eq]; show done.length ≤ _; omega)
        have hqd : (⟨done.toArray⟩ : ByteArray).data.toList = done := rfl
        rw [hqd] at hqt
        obtain ⟨Q, hQ⟩ : ∃ Q, quoteL done = Q := ⟨_, rfl⟩
        rw [hQ] at hqt
        have HQ := Lib.hid hQ
        clear hQ hend hqd H
        have hlen := Lib.byteCells_length done
        have hown0 := hown
        by_cases hd : done = []
        · have HN : Hid (refU s.data.toList = none) := by rw [Hid, HU.out, if_pos (Or.inl hd)]
          have hl0 : (Lib.byteCells done).length = 0 := by rw [hlen, hd]; rfl
          clear hd hqt HQ
          rcases hown0.2 with ⟨rfl, _⟩ | ⟨g, cap, cur, rfl, _, _, _, _, _, _⟩
          · clear hown hown0 hcv
            go_wp2_with fail
            go_returns
            exact ⟨by rw [HN.out]; rfl, hb⟩
          · rw [hl0] at hcv ⊢
            clear hown hown0 hlen hcv
            go_wp2_with fail
            go_returns
            exact ⟨by rw [HN.out]; rfl, hb⟩
        · have hl1 : 0 < (Lib.byteCells done).length := by rw [hlen]; exact List.length_pos_iff.2 hd
          rcases hown0.2 with ⟨rfl, h0⟩ | ⟨g, cap, cur, rfl, _, _, _, _, _, _⟩
          · omega
          · clear hown0
            rw [hlen] at hcv hl1 ⊢
            by_cases hq2 : Q = s.data.toList
            · have HN : Hid (refU s.data.toList = some done) := by
                rw [Hid, HU.out, if_neg]
                rintro (h | h)
                · exact hd h
                · exact h (by rw [HQ.out]; exact hq2)
              have hx : (Q == s.toList) = true := by rw [Lib.toList_data, hq2]; exact beq_self_eq_true _
              clear hq2 HQ HU
              go_wp2_with (go_at_call 47; refine (hqt _).mono ?_; rintro e w1 ⟨rfl, hb1⟩; have hbA := bstep hb hb1; have hcv1 := own_string Tryz.underlying67 Tryz.underlying5 Tryz.underlying9 (hown.below hb1); rw [hlen] at hcv1)
              go_returns
              exact ⟨by rw [HN.out]; rfl, hbA⟩
            · have HN : Hid (refU s.data.toList = none) := by
                rw [Hid, HU.out, if_pos]
                exact Or.inr fun h => hq2 (by rw [← HQ.out]; exact h)
              have hx : (Q == s.toList) = false := by rw [Lib.toList_data]; simpa using hq2
              clear hq2 HQ HU
              go_wp2_with (go_at_call 47; refine (hqt _).mono ?_; rintro e w1 ⟨rfl, hb1⟩; have hbA := bstep hb hb1)
              go_returns
              exact ⟨by rw [HN.out]; rfl, hbA⟩

/- Walks of the reference of layer 33: words, names. -/
open Go.RowKit
set_option linter.unusedVariables false

theorem rw_pct (s : ByteArray) {k : Nat} {done : List Bs} {cur : Bs} (h : k + 1 < s.size) (h2 : s[k]'(by omega) = 37) (H : wordsL s.data.toList = done ++ wordsGo cur (s.data.toList.drop k)) :
    wordsL s.data.toList = done ++ wordsGo (cur ++ (s.data.toList.drop k).take (k + 2 - k)) (s.data.toList.drop (k + 2)) := by
  rw [H, drop_byte s k (by omega), drop_byte s (k + 1) h, h2, wordsGo_two, show k + 2 - k = 2 by omega]; rfl
theorem rw_space (s : ByteArray) {k : Nat} {done : List Bs} {cur : Bs} (h : k < s.size) (h2 : s[k] = 32) (H : wordsL s.data.toList = done ++ wordsGo cur (s.data.toList.drop k)) :
    wordsL s.data.toList = (done ++ [cur]) ++ wordsGo [] (s.data.toList.drop (k + 1)) := by
  rw [H, drop_byte s k h, h2, wordsGo_space]; simp
theorem rw_plain (s : ByteArray) {k : Nat} {done : List Bs} {cur : Bs} (h : k < s.size) (h37 : ¬ (s[k] = 37 ∧ k + 1 < s.size)) (h32 : s[k] ≠ 32) (H : wordsL s.data.toList = done ++ wordsGo cur (s.data.toList.drop k)) :
    wordsL s.data.toList = done ++ wordsGo (cur ++ (s.data.toList.drop k).take (k + 1 - k)) (s.data.toList.drop (k + 1)) := by
  rw [H, drop_byte s k h, show k + 1 - k = 1 by omega]
  by_cases h3 : s[k] = 37
  · have e0 : s.data.toList.drop (k + 1) = [] := List.drop_eq_nil_of_le (by rw [← Lib.size_eq]; have : ¬ k + 1 < s.size := fun e => h37 ⟨h3, e⟩; omega)
    rw [e0, h3, wordsGo_lone]
    show _ = done ++ wordsGo (cur ++ [37]) []
    rw [wordsGo_nil]
  · rw [wordsGo_plain h3 h32]; rfl
theorem bs_cat (a b : Bs) : (⟨(a ++ b).toArray⟩ : ByteArray) = (⟨a.toArray⟩ : ByteArray) ++ (⟨b.toArray⟩ : ByteArray) := by
  apply ByteArray.ext; simp
theorem own_mk {w : World} {B : Nat} {e : TypeId} {v : Value} {n : Nat} {cs : List Value} (h : w.ownsRow B e 1 v n cs) : Own B e v cs w := by
  have := h.1
  unfold Own
  rw [this, Nat.mul_one]; exact h
set_option maxHeartbeats 4000000 in
set_option maxRecDepth 100000 in
theorem rwords_any (s : ByteArray) (w : World) (hs : s.size ≤ 1000000) :
    Calls Tryz.prog 69 #[.string s] w fun e w' => ∃ v, e = .returned v ∧ Own w.heap.size 9 v ((wordsL s.data.toList).map S) w' ∧ Below w.heap.size w w' := by
  obtain ⟨i0, hi, hz0, hz1, hz2⟩ := info_parts strInfo
  go_enter Tryz.func69, Tryz.ntmps69
  go_wp2_with fail
  go_loopw [3, 4, 5, 29, 56] (fun v i _ _ _ wr => ∃ (k : Nat) (done : List Bs) (cur : Bs), i = .int .i64 k ∧ k ≤ s.size ∧ done.length ≤ k ∧ cur.length ≤ k ∧ Own w.heap.size 9 v ((done ++ [cur]).map S) wr ∧ Below w.heap.size w wr ∧ Hid (wordsL s.data.toList = done ++ wordsGo cur (s.data.toList.drop k))) (fun _ i _ _ _ _ => s.size - (intOf i).toNat)
  case atStart =>
    exact ⟨0, [], [], rfl, by omega, by simp, by simp, World.ownsRow_lit w #[.string ⟨#[]⟩] 1 (Nat.le_refl _) (by unfold maxLen; omega) rfl, (Below.refl _ _).alloc (Nat.le_refl _) _, by simp [Hid, wordsL]⟩
  case round =>
    obtain ⟨k, done, cur, rfl, hk, hdl, hcl, hown, hB, H⟩ := hrel
    have hown' := hown
    unfold Own at hown'
    rw [List.length_map, List.length_append, List.length_singleton] at hown'
    obtain ⟨g, cap, rfl, hg1, hg2⟩ := hown'.form (by omega)
    have kc : wr.cell? ⟨g, done.length, none⟩ = some (.string ⟨cur.toArray⟩) := by
      rw [hown'.cellAt done.length (by omega), List.map_append, List.getElem?_append_right (by simp)]
      simp [S]
    have kf := hown'.frozenAt done.length
    have HO := Lib.hid hown'
    have HOW := Lib.hid hown
    clear hown hown'
    by_cases hlt : k < s.size
    · have k0 : (0 : Int) ≤ (k : Int) := by omega
      have k1 : (k : Int) < (s.size : Int) := by omega
      have HSET : Hid (∀ x : Bs, ((done ++ [cur]).map S).set done.length (S x) = (done ++ [x]).map S) := fun x => by
        rw [List.map_append, List.set_append_right _ _ (by simp)]; simp
      have b37 := u8_beq (c := s[k]) (d := 37)
      have b32 := u8_beq (c := s[k]) (d := 32)
      rw [show (((37 : UInt8).toNat : Nat) : Int) = 37 from rfl] at b37
      rw [show (((32 : UInt8).toNat : Nat) : Int) = 32 from rfl] at b32
      by_cases hp : s[k] = 37 ∧ k + 1 < s.size
      · obtain ⟨h37, hk1⟩ := hp
        have HX := Lib.hid (rw_pct s hk1 h37 H.out)
        have k2 : (k : Int) + 1 < (s.size : Int) := by omega
        have k3 : (k : Int) + 2 ≤ (s.size : Int) := by omega
        rw [decide_eq_true h37] at b37
        have HV : Hid ((.string ((⟨cur.toArray⟩ : ByteArray) ++ s.extract k (k + 2)) : Value) = S (cur ++ (s.data.toList.drop k).take (k + 2 - k))) := by
          unfold Hid S; rw [bs_cat, ← ext_data]
        clear h37 b32
        go_wp2_with fail
        go_region
        all_goals go_wp2_with fail
        all_goals go_roundw
        case rel =>
          have hw := (HO.out.stored done.length (.string ((⟨cur.toArray⟩ : ByteArray) ++ s.extract k (k + 2)))).1
          rw [HV.out, HSET.out] at hw
          refine ⟨k + 2, done, cur ++ (s.data.toList.drop k).take (k + 2 - k), by go_num, by omega, by omega, by rw [List.length_append, List.length_take]; omega, ?_, (hB.setCell (p := ⟨g, done.length, none⟩) hg1 _).drew, HX.out⟩
          rw [HV.out]
          exact own_mk hw
        case measure => simp [intOf]; omega
      · have hp' : (((s[k]).toNat : Int) == 37) = false ∨ ((((s[k]).toNat : Int) == 37) = true ∧ decide ((k : Int) + 1 < (s.size : Int)) = false) := by
          by_cases h37 : s[k] = 37
          · right
            exact ⟨by rw [b37, decide_eq_true h37], decide_eq_false (fun e => hp ⟨h37, by omega⟩)⟩
          · left
            rw [b37, decide_eq_false h37]
        have k3 : (k : Int) + 1 ≤ (s.size : Int) := by omega
        by_cases h32 : s[k] = 32
        · have HX := Lib.hid (rw_space s hlt h32 H.out)
          have h37f : (((s[k]).toNat : Int) == 37) = false := by rw [b37, decide_eq_false (by rw [h32]; decide)]
          rw [decide_eq_true h32] at b32
          have hl1 : (((done ++ [cur]).map S).length) + 1 ≤ maxLen := by rw [List.length_map, List.length_append]; simp; unfold maxLen; omega
          have hl2 : ((((done ++ [cur]).map S).length) + 1) * 16 ≤ 140737488355328 := by rw [List.length_map, List.length_append]; simp; omega
          have hown2 : Own w.heap.size 9 (.slice (some ⟨g, 0, none⟩) (done.length + 1) cap) ((done ++ [cur]).map S) wr := own_mk HO.out
          clear h32 hp hp' b37
          go_wp2_with (at_builtin; refine wpList_app1 rfl (.tmp 61) (.tmp 62) 31 rfl w.heap.size i0 _ 16 Tryz.underlying31 hi hz0 hz1 hz2 rfl _ ((done ++ [cur]).map S) rfl hown2 1 rfl rfl hl1 hl2 hB.size ?_; intro v' w2 hown4 hg hb2)
          go_roundw
          case rel => exact ⟨k + 1, done ++ [cur], [], by go_num, by omega, by simp; omega, by simp, by rw [List.map_append (l₂ := [[]])]; exact hown4, hB.trans hb2, HX.out⟩
          case measure => simp [intOf]; omega
        · have HX := Lib.hid (rw_plain s hlt hp h32 H.out)
          rw [decide_eq_false h32] at b32
          have HV : Hid ((.string ((⟨cur.toArray⟩ : ByteArray) ++ s.extract k (k + 1)) : Value) = S (cur ++ (s.data.toList.drop k).take (k + 1 - k))) := by
            unfold Hid S; rw [bs_cat, ← ext_data]
          clear h32 hp b37
          rcases hp' with q | ⟨q1, q2⟩
          all_goals
            go_wp2_with fail
            go_region
            all_goals go_wp2_with fail
            all_goals go_roundw
            case rel =>
              have hw := (HO.out.stored done.length (.string ((⟨cur.toArray⟩ : ByteArray) ++ s.extract k (k + 1)))).1
              rw [HV.out, HSET.out] at hw
              refine ⟨k + 1, done, cur ++ (s.data.toList.drop k).take (k + 1 - k), by go_num, by omega, by omega, by rw [List.length_append, List.length_take]; omega, ?_, (hB.setCell (p := ⟨g, done.length, none⟩) hg1 _).drew, HX.out⟩
              rw [HV.out]
              exact own_mk hw
            case measure => simp [intOf]; omega
    · obtain rfl : k = s.size := by omega
      have HX : Hid (wordsL s.data.toList = done ++ [cur]) := by
        have h := H.out
        rwa [List.drop_eq_nil_of_le (by rw [← Lib.size_eq]; omega), wordsGo_nil] at h
      have k1 : ¬ ((s.size : Int) < (s.size : Int)) := by omega
      go_wp2_with fail
      go_returns
      exact ⟨_, rfl, by rw [HX.out]; exact HOW.out, hB⟩
theorem namesR_take {l : List Bs} {k : Nat} (h : k < l.length) : ((namesR (l.take (k + 1))).map S : List Value) = (namesR (l.take k)).map S ++ [S (unqS (unquoteL l[k]))] := by
  unfold namesR
  rw [List.take_succ_eq_append_getElem h, List.map_append, List.map_append]
  rfl
set_option maxHeartbeats 2000000 in
set_option maxRecDepth 100000 in
theorem rnames_any (A : Option Addr) (c : Nat) (l : List Bs) (w : World) (hrow : RowAt w A (l.map S)) (hl : l.length ≤ 1000000000) (hsz : ∀ x ∈ l, x.length ≤ 10000000) :
    Calls Tryz.prog 68 #[.slice A l.length c] w fun e w' => ∃ v, e = .returned v ∧ Own w.heap.size 9 v ((namesR l).map S) w' ∧ Below w.heap.size w w' := by
  obtain ⟨i0, hi, hz0, hz1, hz2⟩ := info_parts strInfo
  have HC : Hid (∀ k (hk : k < l.length), ∃ b o, A = some ⟨b, o, none⟩ ∧ b < w.heap.size ∧ w.cell? ⟨b, o + k, none⟩ = some (S l[k])) := by
    intro k hk
    obtain ⟨b, o, rfl, hlt, hc⟩ := hrow (by intro e; have := congrArg List.length e; simp at this; subst this; simp at hk)
    exact ⟨b, o, rfl, hlt, hc k _ (getS hk)⟩
  clear hrow
  go_enter Tryz.func68, Tryz.ntmps68
  go_wp2_with fail
  go_loopw [3, 4, 5, 6] (fun v i _ _ wr => ∃ (k : Nat), i = .int .i64 k ∧ k ≤ l.length ∧ Own w.heap.size 9 v ((namesR (l.take k)).map S) wr ∧ Below w.heap.size w wr) (fun _ i _ _ _ => l.length - (intOf i).toNat)
  case atStart => exact ⟨0, rfl, by omega, Own.nil _ _ _, Below.refl _ _⟩
  case round =>
    obtain ⟨k, rfl, hk, hown, hB⟩ := hrel
    by_cases hlt : k < l.length
    · obtain ⟨b, o, rfl, hbl, hcell⟩ := HC.out k hlt
      have hcell2 : wr.cell? ⟨b, o + k, none⟩ = some (.string ⟨l[k].toArray⟩) := (hB.cell (p := ⟨b, o + k, none⟩) hbl).trans hcell
      have k0 : (0 : Int) ≤ (k : Int) := by omega
      have k1 : (k : Int) < (l.length : Int) := by omega
      have hs1 : l[k].length ≤ 10000000 := hsz _ (List.getElem_mem _)
      have p1 := runquote_any ⟨l[k].toArray⟩ wr (by rw [Lib.size_eq]; exact hs1)
      have hq : (⟨l[k].toArray⟩ : ByteArray).data.toList = l[k] := rfl
      rw [hq] at p1
      have hlen : ((namesR (l.take k)).map S).length = k := by unfold namesR; simp; omega
      have ml : ((namesR (l.take k)).map S).length + 1 ≤ maxLen := by rw [hlen]; unfold maxLen; omega
      have mb : (((namesR (l.take k)).map S).length + 1) * 16 ≤ 140737488355328 := by rw [hlen]; omega
      have HN := Lib.hid (namesR_take hlt)
      clear hq hcell HC hs1 hlen
      generalize l[k] = y at hcell2 p1 HN
      generalize unquoteL y = uy at p1 HN
      go_wp2_with fail
      refine p1.mono ?_
      rintro x wx ⟨rfl, bx⟩
      have hown2 := hown.below bx
      have hB2 := bstep hB bx
      go_wp2_with (at_builtin; refine wpList_app1 rfl (.tmp 21) (.tmp 23) 31 rfl w.heap.size i0 _ 16 Tryz.underlying31 hi hz0 hz1 hz2 rfl _ ((namesR (l.take k)).map S) rfl hown2 1 rfl rfl ml mb hB2.size ?_; intro v' w2 hown4 hg hb2)
      go_roundw
      case rel => exact ⟨k + 1, by go_num, by omega, by rw [HN.out]; exact hown4, hB2.trans hb2⟩
      case measure => simp [intOf]; omega
    · obtain rfl : k = l.length := by omega
      have k1 : ¬ ((l.length : Int) < (l.length : Int)) := by omega
      have hown3 := hown
      rw [List.take_length] at hown3
      clear hown
      go_wp2_with fail
      go_returns
      exact ⟨_, rfl, hown3, hB⟩

/- Walk of the reference of layer 33: Parse. -/
open Go.RowKit
set_option linter.unusedVariables false

theorem readAll_next {α : Type} {step : List α → Bs → Option (List α)} {st st' : List α} {ls : List (Nat × Bs)} {k : Nat} (h : k < ls.length) (hs : step st ls[k].2 = some st') : readAll step st (ls.drop k) = readAll step st' (ls.drop (k + 1)) := by
  rw [List.drop_eq_getElem_cons h]
  show (match step st ls[k].2 with | some y => readAll step y _ | none => _) = _
  rw [hs]
theorem readAll_no {α : Type} {step : List α → Bs → Option (List α)} {st : List α} {ls : List (Nat × Bs)} {k : Nat} (h : k < ls.length) (hs : step st ls[k].2 = none) : readAll step st (ls.drop k) = ([], ls[k].1, 3) := by
  rw [List.drop_eq_getElem_cons h]
  show (match step st ls[k].2 with | some y => readAll step y _ | none => ([], ls[k].1, 3)) = _
  rw [hs]
theorem bdrew {h : Nat} {w w' : World} (hB : Below h w w') (k : Nat) : Below h w (w'.drewN k) := ⟨hB.os, hB.tape, hB.output, hB.size, hB.block⟩
theorem Bey.tags {W : World} (A : Option Addr) (c : Nat) (l : List Bs) (hrow : RowAt W A (l.map S)) (hl : l.length ≤ 1000000) {b : Bool} (hb : tagsOk 1 20 l = b) (z : Bey W) :
    Calls Tryz.prog 50 #[.slice A l.length c, .int .i64 1, .int .i64 20] z.w fun e w' => e = .returned (.bool b) ∧ ∃ z' : Bey W, w' = z'.w := by
  refine (rtags1_any A c l z.w (hrow.below z.h) hl).mono ?_
  rintro e w' ⟨rfl, b'⟩
  exact ⟨by rw [hb], ⟨w', bstep z.h b'⟩, rfl⟩
theorem Bey.rquoted {W : World} (A : Option Addr) (c : Nat) (l : List Bs) (hrow : RowAt W A (l.map S)) (hF : Few l) {U : ByteArray} (hU : (⟨(quotedL l).toArray⟩ : ByteArray) = U) (z : Bey W) :
    Calls Tryz.prog 48 #[.slice A l.length c] z.w fun e w' => e = .returned (.string U) ∧ ∃ z' : Bey W, w' = z'.w := by
  refine (rquoted_any A c l z.w (hrow.below z.h) hF).mono ?_
  rintro e w' ⟨rfl, b'⟩
  exact ⟨by rw [hU], ⟨w', bstep z.h b'⟩, rfl⟩
set_option maxHeartbeats 8000000 in
set_option maxRecDepth 100000 in
theorem rparse_any (s : ByteArray) (w : World) : Calls Tryz.prog 28 #[.string s] w (CohPost w (readText lineStepR s.data.toList)) := by
  obtain ⟨ic, ci, cz0, cz1, cz2⟩ := info_parts cohInfo
  obtain ⟨ir, ri, rz0, rz1, rz2⟩ := info_parts reaInfo
  by_cases hs : 16384 < s.size
  · have HP : Hid (readText lineStepR s.data.toList = ([], 0, 2)) := by unfold Hid readText; rw [if_pos (by rw [← Lib.size_eq]; exact hs)]
    have d1 : (16384 : Int) < (s.size : Int) := by omega
    clear hs
    go_enter Tryz.func28, Tryz.ntmps28
    go_wp2_with fail
    go_returns
    unfold CohPost
    rw [HP.out]
    exact ⟨_, rfl, CohsV.nil _, Below.refl _ _⟩
  · have HP : Hid (readText lineStepR s.data.toList = readAll lineStepR [] (linesL s.data.toList)) := by unfold Hid readText; rw [if_neg (by rw [← Lib.size_eq]; exact hs)]
    have d1 : (s.size : Int) ≤ 16384 := by omega
    have p1 := rlines_any s w (by omega)
    have HM : Hid (∀ x ∈ linesL s.data.toList, x.2 ≠ [] ∧ x.2.length ≤ 16384 ∧ x.1 ≤ 16384) := fun x hx => by
      have := lines_mem hx
      rw [← Lib.size_eq] at this
      exact ⟨this.1, by omega, by omega⟩
    clear hs
    go_enter Tryz.func28, Tryz.ntmps28
    go_wp2_with fail
    refine p1.mono ?_
    rintro e w1 ⟨vL, rfl, hown1, b1⟩
    clear p1
    obtain ⟨AL, cL, rfl, hcL, _⟩ := own_sl hown1
    have HO1 := Lib.hid hown1
    clear hown1
    generalize linesL s.data.toList = ls at *
    have hlen : ls.length ≤ 9223372036854775807 := by have := own_len HO1.out; unfold maxLen at this; omega
    go_wp2_with fail
    go_loopw [2, 3, 4, 5, 7, 8, 9, 10, 11] (fun _ _ _ v i _ _ _ _ wr => ∃ (k : Nat) (l : List Coh), i = .int .i64 k ∧ k ≤ ls.length ∧ Below w1.heap.size w1 wr ∧ Hid (LstV w1.heap.size wr v l) ∧ Hid (readAll lineStepR [] ls = readAll lineStepR l (ls.drop k))) (fun _ _ _ _ i _ _ _ _ _ => ls.length - (intOf i).toNat)
    case atStart => exact ⟨0, [], rfl, by omega, Below.refl _ _, Or.inl ⟨rfl, World.ownsRow_nil _ _ _ _⟩, by simp [Hid]⟩
    case round =>
      obtain ⟨k, l, rfl, hk, hB, HL, HR⟩ := hrel
      obtain ⟨cs, hcs⟩ := HL.out.len
      obtain ⟨A, cv, rfl, hcv, _⟩ := own_sl hcs
      by_cases hlt : k < ls.length
      · obtain ⟨gL, cL', e1, hg1, hg2⟩ := HO1.out.form (by omega)
        simp only [Value.slice.injEq, true_and] at e1
        obtain ⟨rfl, rfl⟩ := e1
        obtain ⟨gl1, gl2⟩ := lineCells_get ls k hlt
        have kL : wr.cell? ⟨gL, k * 2, none⟩ = some (S ls[k].2) := (hB.cell (p := ⟨gL, k * 2, none⟩) hg2).trans (by rw [HO1.out.cellAt (k * 2) (by omega), Nat.mul_comm]; exact gl1)
        have kP : w1.cell? ⟨gL, k * 2 + 1, none⟩ = some (.int .i64 (ls[k].1 : Int)) := by rw [HO1.out.cellAt (k * 2 + 1) (by omega), Nat.mul_comm]; exact gl2
        obtain ⟨m1, m2, m3⟩ := HM.out ls[k] (List.getElem_mem _)
        have HN : Hid (∀ l', lineStepR l ls[k].2 = some l' → readAll lineStepR [] ls = readAll lineStepR l' (ls.drop (k + 1))) := fun l' h => HR.out.trans (readAll_next hlt h)
        have HE : Hid (lineStepR l ls[k].2 = none → readAll lineStepR [] ls = ([], ls[k].1, 3)) := fun h => HR.out.trans (readAll_no hlt h)
        generalize ls[k] = x at *
        obtain ⟨p, line⟩ := x
        obtain ⟨LB, hLB⟩ : ∃ F : ByteArray, (⟨line.toArray⟩ : ByteArray) = F := ⟨_, rfl⟩
        have hLd : line = LB.data.toList := by rw [← hLB]
        simp only [S] at kL
        rw [hLB] at kL
        simp only at kP m1 m2 m3 HN HE
        clear hLB gl1 gl2 HR
        have hp0 : 0 < LB.size := by rw [Lib.size_eq, ← hLd]; exact List.length_pos_iff.2 m1
        have hps : LB.size ≤ 16384 := by rw [Lib.size_eq, ← hLd]; exact m2
        subst hLd
        have k0 : (0 : Int) ≤ (k : Int) := by omega
        have k1 : (k : Int) < (ls.length : Int) := by omega
        by_cases h9 : LB.data.toList.headD 0 = 9
        · have n9b : ((((LB[0]'hp0).toNat : Nat) : Int) != 9) = false := by rw [byte0 LB hp0, h9]; rfl
          have l1 : (1 : Int) ≤ (LB.size : Int) := by omega
          have htl : (LB.extract 1 LB.size).data.toList = LB.data.toList.tail := by
            rw [ext_data, List.take_of_length_le (by rw [List.length_drop, ← Lib.size_eq]; omega), List.drop_one]
          have hts : (LB.extract 1 LB.size).size ≤ 16384 := by rw [Lib.size_eq, ext_data, List.length_take, List.length_drop, ← Lib.size_eq]; omega
          have htz : LB.data.toList.tail.length ≤ 16384 := by rw [List.length_tail, ← Lib.size_eq]; omega
          have p1 := fun W => rwords_any (LB.extract 1 LB.size) W (by omega)
          rw [htl] at p1
          have hwl : (wordsL LB.data.toList.tail).length ≤ 16385 := by have := words_len LB.data.toList.tail; omega
          have hwm : ∀ x ∈ wordsL LB.data.toList.tail, x.length ≤ 16384 := fun x hx => by have := words_mem LB.data.toList.tail x hx; omega
          have hst : lineStepR l LB.data.toList = if l ≠ [] ∧ tagsOk 1 20 (namesR (wordsL LB.data.toList.tail)) = true ∧ quotedL (namesR (wordsL LB.data.toList.tail)) = LB.data.toList.tail ∧ lastReads l < 30 then some (addRead l (namesR (wordsL LB.data.toList.tail))) else none := by unfold lineStepR; rw [if_pos h9]
          generalize wordsL LB.data.toList.tail = ws at *
          obtain ⟨ts, hTS⟩ : ∃ ts, namesR ws = ts := ⟨_, rfl⟩
          have hlt2 : ts.length ≤ 16385 := by rw [← hTS]; unfold namesR; rw [List.length_map]; exact hwl
          rw [hTS] at hst
          rw [← htl] at hst
          have HTS := Lib.hid hTS
          have HE2 : Hid (lineStepR l LB.data.toList = none → readText lineStepR s.data.toList = ([], p, 3)) := fun h => HP.out.trans (HE.out h)
          have HCS := Lib.hid hcs
          obtain ⟨TB, hTB⟩ : ∃ TB, LB.extract 1 LB.size = TB := ⟨_, rfl⟩
          have HTB := Lib.hid hTB
          rw [hTB] at hst p1 hts
          clear htl h9 m1 m2 HE hTS hcs htz hTB
          have hcase : (l = [] ∧ lineStepR l LB.data.toList = none) ∨ (l ≠ [] ∧ ((tagsOk 1 20 ts = false ∧ lineStepR l LB.data.toList = none) ∨ (tagsOk 1 20 ts = true ∧ ((quotedL ts ≠ TB.data.toList ∧ lineStepR l LB.data.toList = none) ∨ (quotedL ts = TB.data.toList ∧ ((30 ≤ lastReads l ∧ lineStepR l LB.data.toList = none) ∨ (lastReads l < 30 ∧ lineStepR l LB.data.toList = some (addRead l ts)))))))) := by
            rw [hst]
            by_cases c1 : l = []
            · left; exact ⟨c1, if_neg (fun h => h.1 c1)⟩
            · right
              refine ⟨c1, ?_⟩
              cases c2 : tagsOk 1 20 ts with
              | false => left; exact ⟨rfl, if_neg (fun h => by cases h.2.1)⟩
              | true =>
                right
                refine ⟨rfl, ?_⟩
                by_cases c3 : quotedL ts = TB.data.toList
                · right
                  refine ⟨c3, ?_⟩
                  by_cases c4 : lastReads l < 30
                  · right; exact ⟨c4, if_pos ⟨c1, rfl, c3, c4⟩⟩
                  · left; exact ⟨by omega, if_neg (fun h => c4 h.2.2.2)⟩
                · left; exact ⟨c3, if_neg (fun h => c3 h.2.2.1)⟩
          clear hst
          rcases hcase with ⟨rfl, hstep⟩ | ⟨hne, hcase⟩
          · have HX := Lib.hid (HE2.out hstep)
            clear HE2 HN hstep
            go_wp2_with fail
            rw [HTB.out]
            refine (p1 _).mono ?_
            rintro e W1 ⟨v1, rfl, hown, b1'⟩
            obtain ⟨A1, c1, rfl, hc1, hr1⟩ := hown.row.to (n := ws.length) (by simp)
            have p2 := rnames_any A1 c1 ws W1 hr1 (by omega) (fun x hx => by have := hwm x hx; omega)
            rw [HTS.out] at p2
            clear hown hr1 hwm
            go_wp2_with fail
            refine p2.mono ?_
            rintro e W2 ⟨v2, rfl, hown, b2'⟩
            obtain ⟨A2, c2, rfl, hc2, hr2⟩ := hown.row.to (n := ts.length) (by simp)
            have bRC : Below wr.heap.size wr (W2.alloc (.cells #[.slice A2 ts.length c2] 50)) := (b1'.trans (b2'.mono b1'.size)).alloc (b1'.trans (b2'.mono b1'.size)).size _
            have bWC := hB.trans (bRC.mono hB.size)
            have kPC := (bWC.cell (p := ⟨gL, k * 2 + 1, none⟩) hg2).trans kP
            have kr := at3 W2 #[.slice A2 ts.length c2] 50 0 _ rfl
            have hrC := hr2.below ((Below.refl W2.heap.size W2).alloc (Nat.le_refl _) (.cells #[.slice A2 ts.length c2] 50))
            have hWCs : W2.heap.size < (W2.alloc (.cells #[.slice A2 ts.length c2] 50)).heap.size := by simp
            have hownC : Own W1.heap.size 9 (.slice A2 ts.length c2) (ts.map S) (W2.alloc (.cells #[.slice A2 ts.length c2] 50)) := hown.alloc _
            have HOC := Lib.hid hownC
            clear hr2 hown hownC
            go_wp2_with fail
            obtain ⟨WC, hWC⟩ : ∃ WC, W2.alloc (.cells #[.slice A2 ts.length c2] 50) = WC := ⟨_, rfl⟩
            rw [hWC] at kr hrC hWCs bRC bWC kPC HOC ⊢
            clear hWC
            go_quiet (fail)
            go_wp2_with fail
            go_quiet (fail)
            go_wp2_with fail
            go_returns
            unfold CohPost
            rw [HX.out]
            exact ⟨_, rfl, CohsV.nil _, b1.trans (bdrew (bdrew (bWC.mono b1.size) _) _)⟩
          · have hL := HL.out
            rcases hL with ⟨rfl, h2⟩ | ⟨l', c, xs, x, vs, rfl, h2, h3, h4, h5, h6, h7⟩
            · exact absurd rfl hne
            rw [show (l' ++ [c]).length = l'.length + 1 by simp] at h4 h7 hcv ⊢
            clear HCS
            obtain ⟨gv, cv2, e2, hgv1, hgv2⟩ := h4.form (Nat.succ_pos _)
            simp only [Value.slice.injEq] at e2
            obtain ⟨rfl, _, rfl⟩ := e2
            obtain ⟨Ax, cx, rfl, hcx, _⟩ := own_sl h5
            have hcl := cohCells_len l' xs h2
            have kx : wr.cell? ⟨gv, l'.length * 2 + 1, none⟩ = some (.slice Ax c.reads.length cx) := by
              have := h4.cellAt (l'.length * 2 + 1) (by omega)
              rw [this, List.getElem?_append_right (by omega), hcl, show l'.length * 2 + 1 - 2 * l'.length = 1 by omega]
              rfl
            have hml := own_len h4
            unfold maxLen at hml
            have hml1 : (l'.length : Int) + 1 ≤ 9223372036854775807 := by omega
            have dn0 : (((l'.length : Int) + 1) == 0) = false := by rw [beq_eq_false_iff_ne]; omega
            have H4 := Lib.hid h4
            have H5 := Lib.hid h5
            have H6 := Lib.hid h6
            have H7 := Lib.hid h7
            have H23 := Lib.hid (And.intro h2 h3)
            rw [lastReads_snoc, addRead_snoc] at hcase
            clear h2 h3 h4 h5 h6 h7 hcl hne HL
            rcases hcase with ⟨ht, hstep⟩ | ⟨ht, hcase⟩
            · have HX := Lib.hid (HE2.out hstep)
              clear HE2 HN hstep
              go_wp2_with fail
              rw [HTB.out]
              refine (p1 _).mono ?_
              rintro e W1 ⟨v1, rfl, hown, b1'⟩
              obtain ⟨A1, c1, rfl, hc1, hr1⟩ := hown.row.to (n := ws.length) (by simp)
              have p2 := rnames_any A1 c1 ws W1 hr1 (by omega) (fun x hx => by have := hwm x hx; omega)
              rw [HTS.out] at p2
              clear hown hr1 hwm
              go_wp2_with fail
              refine p2.mono ?_
              rintro e W2 ⟨v2, rfl, hown, b2'⟩
              obtain ⟨A2, c2, rfl, hc2, hr2⟩ := hown.row.to (n := ts.length) (by simp)
              have bRC : Below wr.heap.size wr (W2.alloc (.cells #[.slice A2 ts.length c2] 50)) := (b1'.trans (b2'.mono b1'.size)).alloc (b1'.trans (b2'.mono b1'.size)).size _
              have bWC := hB.trans (bRC.mono hB.size)
              have kPC := (bWC.cell (p := ⟨gL, k * 2 + 1, none⟩) hg2).trans kP
              have kr := at3 W2 #[.slice A2 ts.length c2] 50 0 _ rfl
              have hrC := hr2.below ((Below.refl W2.heap.size W2).alloc (Nat.le_refl _) (.cells #[.slice A2 ts.length c2] 50))
              have hWCs : W2.heap.size < (W2.alloc (.cells #[.slice A2 ts.length c2] 50)).heap.size := by simp
              have hownC : Own W1.heap.size 9 (.slice A2 ts.length c2) (ts.map S) (W2.alloc (.cells #[.slice A2 ts.length c2] 50)) := hown.alloc _
              have HOC := Lib.hid hownC
              clear hr2 hown hownC
              go_wp2_with fail
              obtain ⟨WC, hWC⟩ : ∃ WC, W2.alloc (.cells #[.slice A2 ts.length c2] 50) = WC := ⟨_, rfl⟩
              rw [hWC] at kr hrC hWCs bRC bWC kPC HOC ⊢
              clear hWC
              have q1 := fun z : Bey WC => Bey.tags A2 c2 ts hrC (by omega) ht z
              haveI := Bey.ne WC
              have kr' := Bey.cell kr hWCs
              have hTB := HTB.out
              refine wp_region_class 27 (fun x => ∃ z : Bey WC, x = z.w) (by kernel_rfl) (by kernel_rfl) ⟨⟨WC.drew, (Below.refl _ _).drew⟩, rfl⟩ ?_
              simp only [List.take_succ_cons, List.take_zero, List.drop_succ_cons, List.drop_zero]
              repeat (go_big_quiet_step (exact q1 _))
              refine wpQuiet_nil ?_
              intro W3 hw'
              obtain ⟨⟨_, b3⟩, rfl⟩ := hw'
              try dsimp only
              clear hTB
              have kP3 := (b3.cell (p := ⟨gL, k * 2 + 1, none⟩) (Nat.lt_of_lt_of_le hg2 bWC.size)).trans kPC
              have bW3 := bWC.trans (b3.mono bWC.size)
              go_wp2_with fail
              go_quiet (fail)
              go_wp2_with fail
              go_returns
              unfold CohPost
              rw [HX.out]
              exact ⟨_, rfl, CohsV.nil _, b1.trans (bdrew (bW3.mono b1.size) _)⟩
            · rcases hcase with ⟨hu, hstep⟩ | ⟨hu, hcase⟩
              · have HX := Lib.hid (HE2.out hstep)
                obtain ⟨U, hU⟩ : ∃ U : ByteArray, (⟨(quotedL ts).toArray⟩ : ByteArray) = U := ⟨_, rfl⟩
                have hUT : ¬ U = TB := fun e => hu (by rw [← e, ← hU])
                have hUT2 := ba_ne hUT
                clear HE2 HN hstep hu
                go_wp2_with fail
                rw [HTB.out]
                refine (p1 _).mono ?_
                rintro e W1 ⟨v1, rfl, hown, b1'⟩
                obtain ⟨A1, c1, rfl, hc1, hr1⟩ := hown.row.to (n := ws.length) (by simp)
                have p2 := rnames_any A1 c1 ws W1 hr1 (by omega) (fun x hx => by have := hwm x hx; omega)
                rw [HTS.out] at p2
                clear hown hr1 hwm
                go_wp2_with fail
                refine p2.mono ?_
                rintro e W2 ⟨v2, rfl, hown, b2'⟩
                obtain ⟨A2, c2, rfl, hc2, hr2⟩ := hown.row.to (n := ts.length) (by simp)
                have bRC : Below wr.heap.size wr (W2.alloc (.cells #[.slice A2 ts.length c2] 50)) := (b1'.trans (b2'.mono b1'.size)).alloc (b1'.trans (b2'.mono b1'.size)).size _
                have bWC := hB.trans (bRC.mono hB.size)
                have kPC := (bWC.cell (p := ⟨gL, k * 2 + 1, none⟩) hg2).trans kP
                have kr := at3 W2 #[.slice A2 ts.length c2] 50 0 _ rfl
                have hrC := hr2.below ((Below.refl W2.heap.size W2).alloc (Nat.le_refl _) (.cells #[.slice A2 ts.length c2] 50))
                have hWCs : W2.heap.size < (W2.alloc (.cells #[.slice A2 ts.length c2] 50)).heap.size := by simp
                have hownC : Own W1.heap.size 9 (.slice A2 ts.length c2) (ts.map S) (W2.alloc (.cells #[.slice A2 ts.length c2] 50)) := hown.alloc _
                have HOC := Lib.hid hownC
                clear hr2 hown hownC
                go_wp2_with fail
                obtain ⟨WC, hWC⟩ : ∃ WC, W2.alloc (.cells #[.slice A2 ts.length c2] 50) = WC := ⟨_, rfl⟩
                rw [hWC] at kr hrC hWCs bRC bWC kPC HOC ⊢
                clear hWC
                have q1 := fun z : Bey WC => Bey.tags A2 c2 ts hrC (by omega) ht z
                have q2 := fun z : Bey WC => Bey.rquoted A2 c2 ts hrC (few_of_tags ht) hU z
                clear hU
                haveI := Bey.ne WC
                have kr' := Bey.cell kr hWCs
                have hTB := HTB.out
                refine wp_region_class 27 (fun x => ∃ z : Bey WC, x = z.w) (by kernel_rfl) (by kernel_rfl) ⟨⟨WC.drew, (Below.refl _ _).drew⟩, rfl⟩ ?_
                simp only [List.take_succ_cons, List.take_zero, List.drop_succ_cons, List.drop_zero]
                repeat (go_big_quiet_step (first | exact q1 _ | exact q2 _))
                refine wpQuiet_nil ?_
                intro W3 hw'
                obtain ⟨⟨_, b3⟩, rfl⟩ := hw'
                try dsimp only
                clear hTB
                have kP3 := (b3.cell (p := ⟨gL, k * 2 + 1, none⟩) (Nat.lt_of_lt_of_le hg2 bWC.size)).trans kPC
                have bW3 := bWC.trans (b3.mono bWC.size)
                go_wp2_with fail
                go_quiet (fail)
                go_wp2_with fail
                go_returns
                unfold CohPost
                rw [HX.out]
                exact ⟨_, rfl, CohsV.nil _, b1.trans (bdrew (bW3.mono b1.size) _)⟩
              · have hU : (⟨(quotedL ts).toArray⟩ : ByteArray) = TB := by rw [hu]
                clear hu
                rcases hcase with ⟨h30, hstep⟩ | ⟨h30, hstep⟩
                · have HX := Lib.hid (HE2.out hstep)
                  clear HE2 HN hstep
                  have d30 : (30 : Int) ≤ (c.reads.length : Int) := by omega
                  go_wp2_with fail
                  rw [HTB.out]
                  refine (p1 _).mono ?_
                  rintro e W1 ⟨v1, rfl, hown, b1'⟩
                  obtain ⟨A1, c1, rfl, hc1, hr1⟩ := hown.row.to (n := ws.length) (by simp)
                  have p2 := rnames_any A1 c1 ws W1 hr1 (by omega) (fun x hx => by have := hwm x hx; omega)
                  rw [HTS.out] at p2
                  clear hown hr1 hwm
                  go_wp2_with fail
                  refine p2.mono ?_
                  rintro e W2 ⟨v2, rfl, hown, b2'⟩
                  obtain ⟨A2, c2, rfl, hc2, hr2⟩ := hown.row.to (n := ts.length) (by simp)
                  have bRC : Below wr.heap.size wr (W2.alloc (.cells #[.slice A2 ts.length c2] 50)) := (b1'.trans (b2'.mono b1'.size)).alloc (b1'.trans (b2'.mono b1'.size)).size _
                  have bWC := hB.trans (bRC.mono hB.size)
                  have kPC := (bWC.cell (p := ⟨gL, k * 2 + 1, none⟩) hg2).trans kP
                  have kr := at3 W2 #[.slice A2 ts.length c2] 50 0 _ rfl
                  have hrC := hr2.below ((Below.refl W2.heap.size W2).alloc (Nat.le_refl _) (.cells #[.slice A2 ts.length c2] 50))
                  have hWCs : W2.heap.size < (W2.alloc (.cells #[.slice A2 ts.length c2] 50)).heap.size := by simp
                  have hownC : Own W1.heap.size 9 (.slice A2 ts.length c2) (ts.map S) (W2.alloc (.cells #[.slice A2 ts.length c2] 50)) := hown.alloc _
                  have HOC := Lib.hid hownC
                  clear hr2 hown hownC
                  go_wp2_with fail
                  obtain ⟨WC, hWC⟩ : ∃ WC, W2.alloc (.cells #[.slice A2 ts.length c2] 50) = WC := ⟨_, rfl⟩
                  rw [hWC] at kr hrC hWCs bRC bWC kPC HOC ⊢
                  clear hWC
                  have q1 := fun z : Bey WC => Bey.tags A2 c2 ts hrC (by omega) ht z
                  have q2 := fun z : Bey WC => Bey.rquoted A2 c2 ts hrC (few_of_tags ht) hU z
                  have kxC := (bRC.cell (p := ⟨gv, l'.length * 2 + 1, none⟩) hgv2).trans kx
                  have kx' := Bey.cell kxC (Nat.lt_of_lt_of_le hgv2 bRC.size)
                  clear hU
                  haveI := Bey.ne WC
                  have kr' := Bey.cell kr hWCs
                  have hTB := HTB.out
                  refine wp_region_class 27 (fun x => ∃ z : Bey WC, x = z.w) (by kernel_rfl) (by kernel_rfl) ⟨⟨WC.drew, (Below.refl _ _).drew⟩, rfl⟩ ?_
                  simp only [List.take_succ_cons, List.take_zero, List.drop_succ_cons, List.drop_zero]
                  repeat (go_big_quiet_step (first | exact q1 _ | exact q2 _))
                  refine wpQuiet_nil ?_
                  intro W3 hw'
                  obtain ⟨⟨_, b3⟩, rfl⟩ := hw'
                  try dsimp only
                  clear hTB
                  have kP3 := (b3.cell (p := ⟨gL, k * 2 + 1, none⟩) (Nat.lt_of_lt_of_le hg2 bWC.size)).trans kPC
                  have bW3 := bWC.trans (b3.mono bWC.size)
                  go_wp2_with fail
                  go_quiet (fail)
                  go_wp2_with fail
                  go_returns
                  unfold CohPost
                  rw [HX.out]
                  exact ⟨_, rfl, CohsV.nil _, b1.trans (bdrew (bW3.mono b1.size) _)⟩
                · have HX := Lib.hid (HN.out _ hstep)
                  clear HE2 HN hstep
                  have d30 : decide ((30 : Int) ≤ (c.reads.length : Int)) = false := decide_eq_false (by omega)
                  go_wp2_with fail
                  rw [HTB.out]
                  refine (p1 _).mono ?_
                  rintro e W1 ⟨v1, rfl, hown, b1'⟩
                  obtain ⟨A1, c1, rfl, hc1, hr1⟩ := hown.row.to (n := ws.length) (by simp)
                  have p2 := rnames_any A1 c1 ws W1 hr1 (by omega) (fun x hx => by have := hwm x hx; omega)
                  rw [HTS.out] at p2
                  clear hown hr1 hwm
                  go_wp2_with fail
                  refine p2.mono ?_
                  rintro e W2 ⟨v2, rfl, hown, b2'⟩
                  obtain ⟨A2, c2, rfl, hc2, hr2⟩ := hown.row.to (n := ts.length) (by simp)
                  have bRC : Below wr.heap.size wr (W2.alloc (.cells #[.slice A2 ts.length c2] 50)) := (b1'.trans (b2'.mono b1'.size)).alloc (b1'.trans (b2'.mono b1'.size)).size _
                  have bWC := hB.trans (bRC.mono hB.size)
                  have kPC := (bWC.cell (p := ⟨gL, k * 2 + 1, none⟩) hg2).trans kP
                  have kr := at3 W2 #[.slice A2 ts.length c2] 50 0 _ rfl
                  have hrC := hr2.below ((Below.refl W2.heap.size W2).alloc (Nat.le_refl _) (.cells #[.slice A2 ts.length c2] 50))
                  have hWCs : W2.heap.size < (W2.alloc (.cells #[.slice A2 ts.length c2] 50)).heap.size := by simp
                  have hownC : Own W1.heap.size 9 (.slice A2 ts.length c2) (ts.map S) (W2.alloc (.cells #[.slice A2 ts.length c2] 50)) := hown.alloc _
                  have HOC := Lib.hid hownC
                  clear hr2 hown hownC
                  go_wp2_with fail
                  obtain ⟨WC, hWC⟩ : ∃ WC, W2.alloc (.cells #[.slice A2 ts.length c2] 50) = WC := ⟨_, rfl⟩
                  rw [hWC] at kr hrC hWCs bRC bWC kPC HOC ⊢
                  clear hWC
                  have q1 := fun z : Bey WC => Bey.tags A2 c2 ts hrC (by omega) ht z
                  have q2 := fun z : Bey WC => Bey.rquoted A2 c2 ts hrC (few_of_tags ht) hU z
                  have kxC := (bRC.cell (p := ⟨gv, l'.length * 2 + 1, none⟩) hgv2).trans kx
                  have kx' := Bey.cell kxC (Nat.lt_of_lt_of_le hgv2 bRC.size)
                  clear hU
                  haveI := Bey.ne WC
                  have kr' := Bey.cell kr hWCs
                  have hTB := HTB.out
                  refine wp_region_class 27 (fun x => ∃ z : Bey WC, x = z.w) (by kernel_rfl) (by kernel_rfl) ⟨⟨WC.drew, (Below.refl _ _).drew⟩, rfl⟩ ?_
                  simp only [List.take_succ_cons, List.take_zero, List.drop_succ_cons, List.drop_zero]
                  repeat (go_big_quiet_step (first | exact q1 _ | exact q2 _))
                  refine wpQuiet_nil ?_
                  intro W3 hw'
                  obtain ⟨⟨_, b3⟩, rfl⟩ := hw'
                  try dsimp only
                  clear hTB
                  clear q1 q2 kx' kr' hwl hlt2 hts hps
                  have bR3 := bRC.trans (b3.mono bRC.size)
                  have kx3 := (b3.cell (p := ⟨gv, l'.length * 2 + 1, none⟩) (Nat.lt_of_lt_of_le hgv2 bRC.size)).trans kxC
                  have k4 : W3.cell? ⟨W2.heap.size, 0, none⟩ = some (.slice A2 ts.length c2) := (b3.cell (p := ⟨W2.heap.size, 0, none⟩) hWCs).trans kr
                  have bT : Below wr.heap.size wr ((W3.alloc (.cells #[.slice A2 ts.length c2] 50)).drew) := (bR3.alloc bR3.size _).drew
                  have hown5 : ((W3.alloc (.cells #[.slice A2 ts.length c2] 50)).drew).ownsRow w1.heap.size 50 1 (.slice Ax c.reads.length cx) c.reads.length vs := own_chg H5.out (Chg.of_new (X := fun _ => False) bT) (fun _ _ e => e)
                  have hown4 : Hid (((W3.alloc (.cells #[.slice A2 ts.length c2] 50)).drew).ownsRow w1.heap.size 29 2 (.slice (some ⟨gv, 0, none⟩) (l'.length + 1) cv) (l'.length + 1) (cohCells l' xs ++ [S c.form, .slice Ax c.reads.length cx])) := own_chg H4.out (Chg.of_new (X := fun _ => False) bT) (fun _ _ e => e)
                  have hnews : ∀ j u, (#[Value.slice A2 ts.length c2]).toList[j]? = some u → ((W3.alloc (.cells #[.slice A2 ts.length c2] 50)).drew).cell? ((⟨W3.heap.size, 0, none⟩ : Addr).add j) = some u := World.news_of_block (heap_alloc_new W3 (.cells #[.slice A2 ts.length c2] 50))
                  have h63 : c.reads.length + 1 ≤ maxLen := by unfold maxLen; omega
                  have hby : (c.reads.length + 1) * 24 ≤ 140737488355328 := by omega
                  have hbase : w1.heap.size ≤ ((W3.alloc (.cells #[.slice A2 ts.length c2] 50)).drew).heap.size := by have := bT.size; have := hB.size; omega
                  have hxg : ∀ g, (Value.slice Ax c.reads.length cx).ownBlock = some g → g < wr.heap.size := fun g hg => (H5.out.lt g hg).2
                  have hs1 : wr.heap.size ≤ W1.heap.size := b1'.size
                  have hs2 : W1.heap.size ≤ W2.heap.size := b2'.size
                  have hz3 : W2.heap.size < W3.heap.size := by have := b3.size; omega
                  have bU : Below W3.heap.size W3 ((W3.alloc (.cells #[.slice A2 ts.length c2] 50)).drew) := ((Below.refl _ W3).alloc (Nat.le_refl _) _).drew
                  have hgz : gv < W3.heap.size := by omega
                  have KK : Hid (∀ w5, ((W3.alloc (.cells #[.slice A2 ts.length c2] 50)).drew).grownBy w5 (Value.slice Ax c.reads.length cx).ownBlock → w5.cell? ⟨gv, l'.length * 2 + 1, none⟩ = some (.slice Ax c.reads.length cx) ∧ w5.cell? ⟨W2.heap.size, 0, none⟩ = some (.slice A2 ts.length c2) ∧ w5.frozen? ⟨gv, l'.length * 2 + 1, none⟩ = false) := by
                    intro w5 hg
                    have h1 : w5.heap[gv]? = W3.heap[gv]? := (hg.block gv (Nat.lt_of_lt_of_le hgz bU.size) (fun e => H6.out gv e.symm rfl)).trans (bU.block gv hgz)
                    refine ⟨(cell_same h1).trans kx3, ?_, ?_⟩
                    · exact (cell_same ((hg.block W2.heap.size (Nat.lt_of_lt_of_le hz3 bU.size) (fun e => by have := hxg _ e.symm; omega)).trans (bU.block _ hz3))).trans k4
                    · have h2 := hown4.out.frozenAt (l'.length * 2 + 1)
                      exact frz (hg.block gv (Nat.lt_of_lt_of_le hgz bU.size) (fun e => H6.out gv e.symm rfl)) _ h2
                  clear hxg
                  have HOC3 : Hid (Own W1.heap.size 9 (.slice A2 ts.length c2) (ts.map S) W3) := HOC.out.below b3
                  have hx1 : (l'.length : Int) < (l'.length : Int) + 1 := by omega
                  clear kP kPC kr kxC kx hrC p1 p2 hc1 hc2 HOC dn0
                  go_wp2_with fail
                  go_region_law
                    ((refine step_append_lies _ (by rfl) (.tmp 102) (.tmp 104) 27 (by rfl) w1.heap.size 50 ir _ 1 24 Tryz.underlying27 ri rz0 rz1 rz2 (by rfl) (by decide) _ c.reads.length vs (by rfl) hown5 ⟨W3.heap.size, 0, none⟩ 1 1 [.slice A2 ts.length c2] (by rfl) rfl hnews (by simp [Value.oneCell']) (by decide) h63 hby hbase (W3.heap.size + 1) (by simp) ?_; intro g2 cap w5 hown6 hgr5 hat5 hlt5; obtain ⟨q1, q2, q3⟩ := KK.out w5 hgr5))
                  all_goals go_wp2_with fail
                  all_goals
                    have hyo : ((W3.alloc (.cells #[.slice A2 ts.length c2] 50)).drew).ownsRow W1.heap.size 9 1 (.slice A2 ts.length c2) ts.length (ts.map S) := by
                      have h := (HOC3.out.below (((Below.refl _ W3).alloc (Nat.le_refl _) (.cells #[.slice A2 ts.length c2] 50)).drew))
                      unfold Own at h
                      rwa [List.length_map] at h
                    have hyf : Firm (MX w1.heap.size (.slice (some ⟨gv, 0, none⟩) (l'.length + 1) cv) (.slice Ax c.reads.length cx)) ((W3.alloc (.cells #[.slice A2 ts.length c2] 50)).drew) (fun w => StrsV w (.slice A2 ts.length c2) ts) :=
                      own_firm hyo fun g hg e => by
                        have h1 := (hyo.lt g hg).1
                        have h2 := hB.size
                        rcases e with e | e | e
                        · omega
                        · simp only [Value.ownBlock, Option.some.injEq] at e; omega
                        · have := (H5.out.lt g e).2; omega
                    have hres := Lib.hid (LstV.read (r := ts) H23.out.1 H23.out.2 hown4.out hown5 (fun e => H6.out gv e rfl) (H7.out.step (Chg.of_new (X := fun _ => False) bT) (fun _ _ e => e.elim) (fun _ _ e => e)) hyf hown6 hgr5 (hat5.imp id fun e => by rw [e]; simp) (show l'.length * 2 + 1 = 2 * l'.length + 1 by omega))
                    have hbel := (((hB.trans (bT.mono hB.size)).grown hgr5 hbase (fun g hg => (H5.out.lt g hg).1)).setCell (p := ⟨gv, l'.length * 2 + 1, none⟩) hgv1 (.slice (some ⟨g2, 0, none⟩) (c.reads.length + 1) cap))
                    go_roundw
                    case rel => exact ⟨k + 1, l' ++ [{ c with reads := c.reads ++ [ts] }], by go_num, by omega, hbel, hres, HX⟩
                    case measure => simp [intOf]; omega
        · have n9b : ((((LB[0]'hp0).toNat : Nat) : Int) != 9) = true := by
            simp only [bne_iff_ne, ne_eq]
            intro e
            apply h9
            rw [← byte0 LB hp0]
            exact UInt8.toNat_inj.1 (by have : (9 : UInt8).toNat = 9 := rfl; omega)
          have HS : Hid (lineStepR l LB.data.toList = if cohOk ⟨(unquoteL LB.data.toList).getD [], []⟩ = true ∧ l.length < 200 then some (l ++ [⟨(unquoteL LB.data.toList).getD [], []⟩]) else none) := by unfold Hid lineStepR; rw [if_neg h9]
          have p1 := fun W => runquote_any LB W (by omega)
          obtain ⟨F, hF⟩ : ∃ F : ByteArray, (⟨(unqS (unquoteL LB.data.toList)).toArray⟩ : ByteArray) = F := ⟨_, rfl⟩
          have hFd : (unquoteL LB.data.toList).getD [] = F.data.toList := by rw [← hF]; rfl
          rw [hFd] at HS
          simp only [hF] at p1
          generalize unqE (unquoteL LB.data.toList) = eU at p1
          have HCS := Lib.hid hcs
          have bA : Below w1.heap.size w1 (wr.alloc (.cells #[.string ⟨#[]⟩, .slice none 0 0] 29)) := hB.alloc hB.size _
          have p2 := fun W => rvcohort_any F [] (.slice none 0 0) W ⟨[], Sl.nil W, trivial⟩ (by simp) (by simp)
          have HE2 : Hid (lineStepR l LB.data.toList = none → readText lineStepR s.data.toList = ([], p, 3)) := fun h => HP.out.trans (HE.out h)
          clear h9 hF hFd hcs m1 m2 HE
          cases hq : cohOk ⟨F.data.toList, []⟩ with
          | false =>
            have HX := Lib.hid (HE2.out (by rw [HS.out, hq]; simp))
            simp only [hq] at p2
            clear hq HE2
            go_wp2_with fail
            refine (p1 _).mono ?_
            rintro e W2 ⟨rfl, b2⟩
            have kA0 := (b2.cell (p := ⟨wr.heap.size, 0, none⟩) (by simp)).trans (at3 wr #[.string ⟨#[]⟩, .slice none 0 0] 29 0 _ rfl)
            have kA1 := (b2.cell (p := ⟨wr.heap.size, 1, none⟩) (by simp)).trans (at3 wr #[.string ⟨#[]⟩, .slice none 0 0] 29 1 _ rfl)
            have fA : W2.frozen? ⟨wr.heap.size, 0, none⟩ = false := frz (b2.block wr.heap.size (by simp)) 0 (fz3 wr #[.string ⟨#[]⟩, .slice none 0 0] 29 0)
            have bR2 : Below wr.heap.size wr W2 := ((Below.refl _ _).alloc (Nat.le_refl _) _).trans (b2.mono (by simp))
            have bR3 : Below wr.heap.size wr (W2.setCell ⟨wr.heap.size, 0, none⟩ (.string F)) := bR2.setCell (p := ⟨wr.heap.size, 0, none⟩) (Nat.le_refl _) _
            go_wp2_with fail
            refine (p2 _).mono ?_
            rintro e W4 ⟨rfl, b4⟩
            have bR4 := bR3.trans (b4.mono bR3.size)
            have bW4 := hB.trans (bR4.mono hB.size)
            have kP4 := (bW4.cell (p := ⟨gL, k * 2 + 1, none⟩) hg2).trans kP
            go_wp2_with fail
            go_quiet (fail)
            go_wp2_with fail
            go_returns
            unfold CohPost
            rw [HX.out]
            exact ⟨_, rfl, CohsV.nil _, b1.trans (bdrew (bW4.mono b1.size) _)⟩
          | true =>
            simp only [hq, true_and] at HS p2
            clear hq
            by_cases hl200 : l.length < 200
            · have HX := Lib.hid (HN.out _ (by rw [HS.out, if_pos hl200]))
              have d200 : (l.length : Int) < 200 := by omega
              clear HE2 HN
              go_wp2_with fail
              refine (p1 _).mono ?_
              rintro e W2 ⟨rfl, b2⟩
              have kA0 := (b2.cell (p := ⟨wr.heap.size, 0, none⟩) (by simp)).trans (at3 wr #[.string ⟨#[]⟩, .slice none 0 0] 29 0 _ rfl)
              have kA1 := (b2.cell (p := ⟨wr.heap.size, 1, none⟩) (by simp)).trans (at3 wr #[.string ⟨#[]⟩, .slice none 0 0] 29 1 _ rfl)
              have fA : W2.frozen? ⟨wr.heap.size, 0, none⟩ = false := frz (b2.block wr.heap.size (by simp)) 0 (fz3 wr #[.string ⟨#[]⟩, .slice none 0 0] 29 0)
              have bR2 : Below wr.heap.size wr W2 := ((Below.refl _ _).alloc (Nat.le_refl _) _).trans (b2.mono (by simp))
              have bR3 : Below wr.heap.size wr (W2.setCell ⟨wr.heap.size, 0, none⟩ (.string F)) := bR2.setCell (p := ⟨wr.heap.size, 0, none⟩) (Nat.le_refl _) _
              go_wp2_with fail
              refine (p2 _).mono ?_
              rintro e W4 ⟨rfl, b4⟩
              have bR4 := bR3.trans (b4.mono bR3.size)
              have bW4 := hB.trans (bR4.mono hB.size)
              have kB0 := (b4.cell (p := ⟨wr.heap.size, 0, none⟩) (by simp; have := b2.size; simp at this; omega)).trans (World.cell?_setCell_same' W2 ⟨wr.heap.size, 0, none⟩ (.string F) (by rw [kA0]; rfl))
              have kB1 := (b4.cell (p := ⟨wr.heap.size, 1, none⟩) (by simp; have := b2.size; simp at this; omega)).trans ((World.cell?_setCell_other W2 ⟨wr.heap.size, 0, none⟩ ⟨wr.heap.size, 1, none⟩ (.string F) (by simp)).trans kA1)
              have bU := bR4.alloc bR4.size (.cells #[.string F, .slice none 0 0] 29)
              have bT := bW4.alloc bW4.size (.cells #[.string F, .slice none 0 0] 29)
              have hown3 : (W4.alloc (.cells #[.string F, .slice none 0 0] 29)).ownsRow w1.heap.size 29 2 (.slice A l.length cv) l.length cs := own_chg HCS.out (Chg.of_new (X := fun _ => False) bU) (fun _ _ e => e)
              have hL3 : Hid (LstV w1.heap.size (W4.alloc (.cells #[.string F, .slice none 0 0] 29)) (.slice A l.length cv) l) := HL.out.chg (Chg.of_new (X := fun _ => False) bU) (fun _ _ e => e.elim)
              have hnews := World.news_of_block (heap_alloc_new W4 (.cells #[.string F, .slice none 0 0] 29))
              have h63 : l.length + 1 ≤ maxLen := by unfold maxLen; omega
              have hby : (l.length + 1) * 40 ≤ 140737488355328 := by omega
              have hbase : w1.heap.size ≤ (W4.alloc (.cells #[.string F, .slice none 0 0] 29)).heap.size := bT.size
              go_wp2_with (at_builtin; refine wpList_append_lies _ rfl (.tmp 51) (.tmp 53) 22 rfl w1.heap.size 29 ic _ 2 40 Tryz.underlying22 ci cz0 cz1 cz2 rfl (by decide) _ l.length cs rfl hown3 ⟨W4.heap.size, 0, none⟩ 1 1 [.string F, .slice none 0 0] rfl rfl hnews (by simp [Value.oneCell']) (by decide) h63 hby hbase (W4.heap.size + 1) (by simp) ?_; intro g2 cap w5 hown5 hgr5 hat5 hlt5)
              go_roundw
              case rel => exact ⟨k + 1, l ++ [⟨F.data.toList, []⟩], by go_num, by omega, bT.grown hgr5 hbase (fun g hg => (hown3.lt g hg).1), Lib.hid (hL3.out.form (f := F.data.toList) hown3 hown5 hgr5 (hat5.imp id fun e => by rw [e]; simp)), HX⟩
              case measure => simp [intOf]; omega
            · have HX := Lib.hid (HE2.out (by rw [HS.out, if_neg hl200]))
              have d200 : (200 : Int) ≤ (l.length : Int) := by omega
              clear HE2 HN
              go_wp2_with fail
              refine (p1 _).mono ?_
              rintro e W2 ⟨rfl, b2⟩
              have kA0 := (b2.cell (p := ⟨wr.heap.size, 0, none⟩) (by simp)).trans (at3 wr #[.string ⟨#[]⟩, .slice none 0 0] 29 0 _ rfl)
              have kA1 := (b2.cell (p := ⟨wr.heap.size, 1, none⟩) (by simp)).trans (at3 wr #[.string ⟨#[]⟩, .slice none 0 0] 29 1 _ rfl)
              have fA : W2.frozen? ⟨wr.heap.size, 0, none⟩ = false := frz (b2.block wr.heap.size (by simp)) 0 (fz3 wr #[.string ⟨#[]⟩, .slice none 0 0] 29 0)
              have bR2 : Below wr.heap.size wr W2 := ((Below.refl _ _).alloc (Nat.le_refl _) _).trans (b2.mono (by simp))
              have bR3 : Below wr.heap.size wr (W2.setCell ⟨wr.heap.size, 0, none⟩ (.string F)) := bR2.setCell (p := ⟨wr.heap.size, 0, none⟩) (Nat.le_refl _) _
              go_wp2_with fail
              refine (p2 _).mono ?_
              rintro e W4 ⟨rfl, b4⟩
              have bR4 := bR3.trans (b4.mono bR3.size)
              have bW4 := hB.trans (bR4.mono hB.size)
              have kP4 := (bW4.cell (p := ⟨gL, k * 2 + 1, none⟩) hg2).trans kP
              go_wp2_with fail
              go_quiet (fail)
              go_wp2_with fail
              go_returns
              unfold CohPost
              rw [HX.out]
              exact ⟨_, rfl, CohsV.nil _, b1.trans (bdrew (bW4.mono b1.size) _)⟩
      · obtain rfl : k = ls.length := by omega
        have HX : Hid (readAll lineStepR [] ls = (l, 0, 0)) := by
          have := HR.out
          rwa [List.drop_length] at this
        have k1 : ¬ ((ls.length : Int) < (ls.length : Int)) := by omega
        go_wp2_with fail
        go_returns
        unfold CohPost
        rw [HP.out, HX.out]
        exact ⟨_, rfl, HL.out.cohs, b1.trans (hB.mono b1.size)⟩

/- The statement ReadingsParse: its walk. -/
open Go.RowKit
set_option linter.unusedVariables false

theorem readAll_keep {α : Type} {step : List α → Bs → Option (List α)} {P : List α → Prop} (hs : ∀ st x st', P st → step st x = some st' → P st') (h0 : P []) : ∀ (ls : List (Nat × Bs)) (st : List α), P st → P (readAll step st ls).1
  | [], st, h => h
  | (p, x) :: r, st, h => by
    show P (match step st x with | some y => readAll step y r | none => ([], p, 3)).1
    cases hx : step st x with
    | none => exact h0
    | some y => exact readAll_keep hs h0 r y (hs st x y h hx)
theorem readText_keep {α : Type} {step : List α → Bs → Option (List α)} {P : List α → Prop} (hs : ∀ st x st', P st → step st x = some st' → P st') (h0 : P []) (s : Bs) : P (readText step s).1 := by
  unfold readText
  split
  · exact h0
  · exact readAll_keep hs h0 _ _ h0
theorem cohsOk_iff (l : List Coh) : cohsOk l = true ↔ l.length ≤ 200 ∧ ∀ c ∈ l, cohOk c = true := by
  unfold cohsOk
  simp only [Bool.and_eq_true, decide_eq_true_eq, List.all_eq_true]
theorem snoc_exists {α : Type} : ∀ {l : List α}, l ≠ [] → ∃ a x, l = a ++ [x]
  | [], h => absurd rfl h
  | x :: r, _ => by
    cases r with
    | nil => exact ⟨[], x, rfl⟩
    | cons y t =>
      obtain ⟨a, z, e⟩ := snoc_exists (l := y :: t) (by simp)
      exact ⟨x :: a, z, by rw [e]; rfl⟩
theorem lineStepR_ok {st st' : List Coh} {x : Bs} (h : cohsOk st = true) (hs : lineStepR st x = some st') : cohsOk st' = true := by
  rw [cohsOk_iff] at h ⊢
  unfold lineStepR at hs
  split at hs
  · split at hs
    · rename_i hc
      obtain ⟨h1, h2, h3, h4⟩ := hc
      obtain ⟨a, c, rfl⟩ := snoc_exists h1
      rw [addRead_snoc] at hs
      rw [lastReads_snoc] at h4
      simp only [Option.some.injEq] at hs
      subst hs
      refine ⟨by simpa using h.1, fun d hd => ?_⟩
      rcases List.mem_append.1 hd with hd | hd
      · exact h.2 d (List.mem_append_left _ hd)
      · simp only [List.mem_singleton] at hd
        subst hd
        obtain ⟨g1, g2, g3⟩ := cohOk_parts (h.2 c (by simp))
        unfold cohOk
        simp only [Bool.and_eq_true, decide_eq_true_eq, List.all_eq_true]
        refine ⟨⟨g1, by simp; omega⟩, fun r hr => ?_⟩
        rcases List.mem_append.1 hr with hr | hr
        · exact g3 r hr
        · simp only [List.mem_singleton] at hr
          rw [hr]; exact h2
    · cases hs
  · split at hs
    · rename_i hc
      simp only [Option.some.injEq] at hs
      subst hs
      refine ⟨by simp; omega, fun d hd => ?_⟩
      rcases List.mem_append.1 hd with hd | hd
      · exact h.2 d hd
      · simp only [List.mem_singleton] at hd
        rw [hd]; exact hc.1
    · cases hs
theorem stepEq : (lineStep : List Coh → Bs → Option (List Coh)) = lineStepR := by funext a b; exact lineStep_eq a b
set_option maxHeartbeats 4000000 in
set_option maxRecDepth 100000 in
theorem parseLaw_any (s : ByteArray) (w : World) (hT : TabH w) :
    Calls Tryz.prog 6 #[.string s] w fun e w' => e = .returned (.bool true) ∧ Below w.heap.size w w' := by
  by_cases hs : 20000 < s.size
  · have d1 : (20000 : Int) < (s.size : Int) := by omega
    have p0 := awake_any w hT
    go_enter Tryz.func6, Tryz.ntmps6
    go_wp2_with fail
    refine p0.mono ?_
    rintro e w1 ⟨rfl, b1⟩
    go_wp2_with fail
    go_returns
    exact ⟨rfl, b1⟩
  · have d1 : (s.size : Int) ≤ 20000 := by omega
    have p1 := parse_any s w hT
    have p2 := fun W => rparse_any s W
    unfold parseL at p1
    rw [stepEq] at p1
    have hsz : Sized (readText lineStepR s.data.toList).1 := sized_ok (readText_keep (P := fun l => cohsOk l = true) (fun _ _ _ h => lineStepR_ok h) (by rfl) s.data.toList)
    generalize readText lineStepR s.data.toList = R at *
    obtain ⟨l, q, c⟩ := R
    clear hs
    unfold CohPost at p1 p2
    dsimp only at *
    have HSZ := Lib.hid hsz
    clear hsz
    go_enter Tryz.func6, Tryz.ntmps6
    go_wp2_with fail
    refine p1.mono ?_
    rintro e w1 ⟨v1, rfl, V1, b1⟩
    clear p1
    obtain ⟨A1, d1', rfl⟩ : ∃ A c, v1 = .slice A l.length c := by
      obtain ⟨xs, ⟨A, c, rfl, h1, h2⟩, h3⟩ := V1
      exact ⟨A, c, rfl⟩
    go_wp2_with fail
    refine (p2 _).mono ?_
    rintro e w2 ⟨v2, rfl, V2, b2⟩
    clear p2
    obtain ⟨A2, d2', rfl⟩ : ∃ A c, v2 = .slice A l.length c := by
      obtain ⟨xs, ⟨A, c, rfl, h1, h2⟩, h3⟩ := V2
      exact ⟨A, c, rfl⟩
    have p3 := rsame_any A1 A2 d1' d2' l l w2 (V1.below b2) V2 HSZ.out HSZ.out
    rw [decide_eq_true rfl] at p3
    have k2 := bstep b1 b2
    clear V1 V2
    go_wp2_with fail
    refine p3.mono ?_
    rintro e w3 ⟨rfl, b3⟩
    have k3 := bstep k2 b3
    go_wp2_with fail
    refine (awake_any w3 (hT.below k3)).mono ?_
    rintro e w4 ⟨rfl, b4⟩
    go_wp2_with fail
    go_returns
    exact ⟨rfl, bstep k3 b4⟩
end Go.Proofs.YtplipnchkkhdaaaGreatDoor
