/- LettersUnits: the law's walk. -/
import Derived.Test.YtbpfbceagdikoaaDoorLc
import Derived.Test.YtbpfbceagdikoaaDoorLq
import Derived.Test.YtbpfbceagdikoaaDoorLa
import Derived.Test.YtbpfbceagdikoaaDoorPlain5
import Derived.Test.YtbpfbceagdikoaaDoorLu
import Derived.Deep.RegionHeld3
namespace Go.Proofs.YtbpfbceagdikoaaDoor
open Go.RowKit
set_option linter.unusedVariables false

set_option maxHeartbeats 1000000 in
set_option maxRecDepth 100000 in
theorem hexdig_any (s : ByteArray) (w : World) (hs : s.size = 1) (h : 48 ≤ s[0].toNat ∧ s[0].toNat ≤ 57 ∨ 97 ≤ s[0].toNat ∧ s[0].toNat ≤ 102) :
    Calls Tryd.prog 30 #[.string s] w fun e w' => e = .returned (.bool true) ∧ w = w' := by
  obtain ⟨n, hn⟩ : ∃ n, s[0].toNat = n := ⟨_, rfl⟩
  rw [hn] at h
  rcases h with ⟨h1, h2⟩ | ⟨h1, h2⟩
  all_goals
    go_enter Tryd.func30, Tryd.ntmps30
    go_wp2
    go_returns
    exact ⟨ret_bool (by simp <;> omega), rfl⟩

theorem hexd_range : ∀ n : Nat, n < 16 → 48 ≤ (hexd n).toNat ∧ (hexd n).toNat ≤ 57 ∨ 97 ≤ (hexd n).toNat ∧ (hexd n).toNat ≤ 102 := by decide +kernel
theorem drop_cons_get {L : List Bs} {k : Nat} {x : Bs} {r : List Bs} (h : L.drop k = x :: r) : ∃ hk : k < L.length, L[k] = x ∧ L.drop (k + 1) = r := by
  have hk : k < L.length := by
    rcases Nat.lt_or_ge k L.length with hh | hh
    · exact hh
    · rw [List.drop_eq_nil_of_le hh] at h; cases h
  rw [List.drop_eq_getElem_cons hk] at h
  injection h with h1 h2
  exact ⟨hk, h1, h2⟩
/-- the three shapes of what Quote writes for a piece -/
theorem unitL_cases {t : Bs} (ht : PieceOk t) :
    (unitL t = [t] ∧ classL t ≠ 4 ∧ classL t ≠ 5 ∧ t ≠ [] ∧ 32 ≤ (t.headD 0).toNat ∧ (t.headD 0).toNat ≠ 127 ∧ t ≠ [37]) ∨
    (unitL t = [[37], t] ∧ (classL t = 4 ∨ classL t = 5) ∧ t ≠ [] ∧ 32 ≤ (t.headD 0).toNat ∧ t ≠ [120]) ∨
    (∃ a b, a < 16 ∧ b < 16 ∧ unitL t = [[37], [120], [hexd a], [hexd b]]) := by
  by_cases h1 : validL t = false ∨ ctlB (point t 0).1 = true
  · refine Or.inr (Or.inr ⟨(t.headD 0).toNat / 16, (t.headD 0).toNat % 16, ?_, ?_, ?_⟩)
    · have := UInt8.toNat_lt (t.headD 0); omega
    · omega
    · unfold unitL; rw [if_pos h1]
  · have hv : validL t = true := by
      cases hh : validL t with
      | true => rfl
      | false => exact absurd (Or.inl hh) h1
    have hc : ¬ ctlB (point t 0).1 = true := fun hh => h1 (Or.inr hh)
    obtain ⟨g1, g2⟩ := head_ge hv hc
    have hcl : classL t = clsOf (point t 0).1 := by unfold classL; rw [if_pos hv]
    by_cases h2 : clsOf (point t 0).1 = 4 ∨ clsOf (point t 0).1 = 5
    · refine Or.inr (Or.inl ⟨by unfold unitL; rw [if_neg h1, if_pos h2], by rw [hcl]; exact h2, valid_ne hv, g1, ?_⟩)
      rintro rfl
      rw [← hcl] at h2
      have : classL [120] = 1 := by decide +kernel
      omega
    · refine Or.inl ⟨by unfold unitL; rw [if_neg h1, if_neg h2], by rw [hcl]; omega, by rw [hcl]; omega, valid_ne hv, g1, g2, ?_⟩
      rintro rfl
      rw [← hcl] at h2
      have : classL [37] = 5 := by decide +kernel
      omega
theorem quoteL_ne (n : Bs) : quoteL n ≠ [] := by
  intro e
  have h1 := unquote_quote n
  rw [e] at h1
  have h2 : unquoteL [] = none := by decide +kernel
  rw [h2] at h1
  cases h1
theorem flat_two {L : List Bs} {n : Bs} (hL : L.flatten = quoteL n) (hn : n ≠ []) (h : L = [[37], [48]]) : False := by
  rw [h] at hL
  exact quote_not hn hL.symm

set_option maxHeartbeats 4000000 in
set_option maxRecDepth 100000 in
theorem units_law (s : ByteArray) (w : World) (hT : Tabs w) :
    Calls Tryd.prog 9 #[.string s] w fun e w' => e = .returned (.bool true) ∧ Below w.heap.size w w' := by
  have hA : Below w.heap.size w w := Below.refl _ _
  rcases Nat.lt_or_ge 2000 s.size with hs | hs
  · go_enter Tryd.func9, Tryd.ntmps9
    go_wp2_with fail
    all_goals first
      | (go_at_call 17; refine (awake_any _ hT).mono ?_; rintro e w1 ⟨rfl, hb1⟩; go_wp2_with fail; go_returns; exact ⟨rfl, hb1⟩)
      | (exfalso; go_light; omega)
  · have k1 := quote_any s w hT (by omega)
    have hlen := quoteL_len s.data.toList
    rw [← Lib.size_eq] at hlen
    obtain ⟨q, hq⟩ : ∃ q : ByteArray, (⟨(quoteL s.data.toList).toArray⟩ : ByteArray) = q := ⟨_, rfl⟩
    have hqd : q.data.toList = quoteL s.data.toList := by rw [← hq]
    have k2 := fun W hW => split_every q W hW
    rw [hqd] at k2
    rw [hq] at k1
    have hll := splitL_le (quoteL s.data.toList)
    by_cases h0 : s.data.toList = []
    · have e1 : splitL (quoteL s.data.toList) = [[37], [48]] := by rw [h0]; decide +kernel
      have e2 : splitE (quoteL s.data.toList) = 0 := by rw [h0]; decide +kernel
      rw [e1, e2] at k2
      generalize splitAt (quoteL s.data.toList) = sa at k2
      have hse : (s.toList == []) = true := by rw [Lib.toList_data, h0]; rfl
      have hz : s.size = 0 := by rw [Lib.size_eq, h0]; rfl
      have hemp := isEmpty_of hz
      clear hq hqd hlen hll e1 e2 h0
      go_enter Tryd.func9, Tryd.ntmps9
      go_wp2_with fail
      refine k1.mono ?_
      rintro e w1 ⟨rfl, hb1⟩
      have hA1 := bstep hA hb1
      go_wp2_with fail
      refine (k2 _ (hT.below hA1)).mono ?_
      rintro e w2 ⟨A, c, rfl, hcap, hrow, hb2⟩
      have hA2 := bstep hA1 hb2
      obtain ⟨b, o, rfl, hbl, hcell⟩ := hrow (by simp)
      have hc0 : w2.cell? ⟨b, o, none⟩ = some (.string ⟨#[37]⟩) := hcell 0 _ rfl
      have hc1 : w2.cell? ⟨b, o + 1, none⟩ = some (.string ⟨#[48]⟩) := hcell 1 _ rfl
      clear hcell hrow
      go_wp2_with (go_at_call 17; refine (awake_any _ (hT.below hA2)).mono ?_; rintro e w8 ⟨rfl, hb8⟩; have hA8 := bstep hA2 hb8)
      go_returns
      exact ⟨rfl, hA8⟩
    · obtain ⟨e1, e2, e3⟩ := quote_split h0 (by omega)
      have hfl : (splitL (quoteL s.data.toList)).flatten = quoteL s.data.toList := by
        rw [e1, ← quoteP_pieces, pieces_flat]; unfold quoteL; rw [if_neg h0]
      have hps : ∀ p ∈ pieces s.data.toList, PieceOk p := pieces_ok _
      rw [e2, e3] at k2
      have hL2 : ∀ L : List Bs, L = splitL (quoteL s.data.toList) → L = [[37], [48]] → False := fun L e h => flat_two (by rw [e]; exact hfl) h0 h
      have hLn : splitL (quoteL s.data.toList) ≠ [] := fun e => by rw [e] at hfl; exact quoteL_ne _ hfl.symm
      have hL2' := hL2 _ rfl
      clear e2 e3 hq hqd hfl hL2
      generalize splitL (quoteL s.data.toList) = L at *
      generalize pieces s.data.toList = ps0 at *
      have hlen2 : L.length ≤ 20000 := by omega
      have hLpos : 0 < L.length := List.length_pos_iff.2 hLn
      have hz0 : (((L.length : Nat) : Int) == 0) = false := by simp; omega
      have HL := Lib.hid e1
      have HP := Lib.hid hps
      clear e1 hps hLn hll hlen h0
      go_enter Tryd.func9, Tryd.ntmps9
      go_wp2_with fail
      refine k1.mono ?_
      rintro e w1 ⟨rfl, hb1⟩
      have hA1 := bstep hA hb1
      go_wp2_with fail
      refine (k2 _ (hT.below hA1)).mono ?_
      rintro e w2 ⟨A, c, rfl, hcap, hrow, hb2⟩
      have hA2 := bstep hA1 hb2
      obtain ⟨b, o, rfl, hbl, hcell⟩ := hrow (by intro e; rw [List.map_eq_nil_iff] at e; rw [e] at hLpos; simp at hLpos)
      have hloop : (((L.length : Nat) : Int) == 2) = false ∨ (((L.length : Nat) : Int) == 2) = true ∧ ∃ x0 x1 : ByteArray, w2.cell? ⟨b, o, none⟩ = some (.string x0) ∧ w2.cell? ⟨b, o + 1, none⟩ = some (.string x1) ∧ ((x0.toList == [37]) = false ∨ (x0.toList == [37]) = true ∧ (x1.toList == [48]) = false) := by
        by_cases h2 : L.length = 2
        · refine Or.inr ⟨by rw [h2]; rfl, ⟨L[0].toArray⟩, ⟨L[1].toArray⟩, hcell 0 _ (getS (by omega)), hcell 1 _ (getS (by omega)), ?_⟩
          rw [Lib.toList_data, Lib.toList_data]
          by_cases h3 : L[0] = [37]
          · refine Or.inr ⟨beq_iff_eq.2 h3, ?_⟩
            have h4 : L[1] ≠ [48] := fun h4 => hL2' (by
              apply List.ext_getElem (by simpa using h2)
              intro i i1 i2
              match i, i1 with
              | 0, _ => exact h3
              | 1, _ => exact h4
              | i + 2, i1 => omega)
            simpa using h4
          · exact Or.inl (by simpa using h3)
        · exact Or.inl (by simp; omega)
      clear hL2'
      have HC := Lib.hid hcell
      clear hcell
      have hge : (((L.length : Nat) : Int) == 2) = true → 1 < L.length := fun h => by have := eq_of_beq h; omega
      rcases hloop with h2 | ⟨h2, x0, x1, hx0, hx1, h3 | ⟨h3, h4⟩⟩
      all_goals first | (replace hge := hge h2) | (clear hge)
      all_goals go_wp2_with fail
      all_goals
        go_loopw [2, 6, 7, 8] (fun _ i _ _ wr => ∃ (k : Nat) (ps : List Bs), i = .int .i64 k ∧ k ≤ L.length ∧ Below w2.heap.size w2 wr ∧ Hid (L.drop k = ps.flatMap unitL) ∧ Hid (∀ p ∈ ps, PieceOk p)) (fun _ i _ _ _ => L.length - (intOf i).toNat)
        case atStart => exact ⟨0, ps0, rfl, by omega, Below.refl _ _, HL, HP⟩
        case round =>
          obtain ⟨k, ps, rfl, hk, hbr, HD, HQ⟩ := hrel
          have hAr := bstep hA2 hbr
          by_cases hlt : k < L.length
          · obtain ⟨t, r, rfl⟩ : ∃ t r, ps = t :: r := by
              cases ps with
              | nil => have := HD.out; rw [List.flatMap_nil, List.drop_eq_nil_iff] at this; omega
              | cons t r => exact ⟨t, r, rfl⟩
            have hpt := HQ.out t List.mem_cons_self
            have HR : Hid (∀ p ∈ r, PieceOk p) := fun p hp => HQ.out p (List.mem_cons_of_mem _ hp)
            have hd := HD.out
            rw [List.flatMap_cons] at hd
            have hcell' : ∀ j (h : j < L.length), wr.cell? ⟨b, o + j, none⟩ = some (.string ⟨L[j].toArray⟩) := fun j h => (hbr.cell (cell_lt (HC.out j _ (getS h)))).trans (HC.out j _ (getS h))
            clear hrow
            rcases unitL_cases hpt with ⟨u, c4, c5, hne, h32, h127, h37⟩ | ⟨u, c45, hne, h32, h120⟩ | ⟨x, y, hx, hy, u⟩
            · rw [u] at hd
              simp only [List.cons_append, List.nil_append] at hd
              obtain ⟨_, g1, g2⟩ := drop_cons_get hd
              have HN := Lib.hid g2
              obtain ⟨T, hT'⟩ : ∃ T : ByteArray, (⟨t.toArray⟩ : ByteArray) = T := ⟨_, rfl⟩
              have hTd : T.data.toList = t := by rw [← hT']
              have hc := hcell' k hlt
              rw [g1, hT'] at hc
              have d1 := fun W hW => class_any T W hW
              have hsz : 0 < T.size := by rw [Lib.size_eq, hTd]; exact List.length_pos_iff.2 hne
              have hh := headD_drop T 0 hsz
              rw [List.drop_zero, hTd] at hh
              rw [hh] at h32 h127
              rw [hTd] at d1
              generalize classL t = x1 at d1 c4 c5
              have y4 : (x1 == 4) = false := by simpa using c4
              have y5 : (x1 == 5) = false := by simpa using c5
              have f37 : (T.toList == [37]) = false := by rw [Lib.toList_data, hTd]; simpa using h37
              have y127 : (((T[0].toNat : Nat) : Int) == 127) = false := by simp; omega
              clear c4 c5 h37 h127 hh hTd hT' g1 g2 hd u hne hpt hcell' HD HQ
              go_wp2_with (go_at_call 13; refine (d1 _ (hT.below hAr)).mono ?_; rintro e wx ⟨rfl, hbx⟩; replace hc := (hbx.cell (cell_lt hc)).trans hc; replace hAr := bstep hAr hbx; replace hbr := bstep hbr hbx)
              go_roundw
              case rel => exact ⟨k + 1, r, by go_num, by omega, hbr, HN, HR⟩
              case measure => simp [intOf]; omega
            · rw [u] at hd
              simp only [List.cons_append, List.nil_append] at hd
              obtain ⟨_, g1, g2⟩ := drop_cons_get hd
              obtain ⟨hk1, g3, g4⟩ := drop_cons_get g2
              have HN := Lib.hid g4
              obtain ⟨T, hT'⟩ : ∃ T : ByteArray, (⟨t.toArray⟩ : ByteArray) = T := ⟨_, rfl⟩
              obtain ⟨P, hP'⟩ : ∃ T : ByteArray, (⟨([37] : Bs).toArray⟩ : ByteArray) = T := ⟨_, rfl⟩
              have hTd : T.data.toList = t := by rw [← hT']
              have hc0 := hcell' k hlt
              rw [g1, hP'] at hc0
              have hc := hcell' (k + 1) hk1
              rw [g3, hT'] at hc
              have d1 := fun W hW => class_any T W hW
              have hsz : 0 < T.size := by rw [Lib.size_eq, hTd]; exact List.length_pos_iff.2 hne
              have hh := headD_drop T 0 hsz
              rw [List.drop_zero, hTd] at hh
              rw [hh] at h32
              rw [hTd] at d1
              generalize classL t = x1 at d1 c45
              have f37 : (P.toList == [37]) = true := by rw [← hP', Lib.toList_data]; rfl
              have f120 : (T.toList == [120]) = false := by rw [Lib.toList_data, hTd]; simpa using h120
              clear h120 hh hTd hT' hP' g1 g2 g3 g4 hd u hne hpt hcell' HD HQ
              rcases c45 with rfl | rfl
              all_goals
                go_wp2_with (go_at_call 13; refine (d1 _ (hT.below hAr)).mono ?_; rintro e wx ⟨rfl, hbx⟩; replace hc := (hbx.cell (cell_lt hc)).trans hc; replace hAr := bstep hAr hbx; replace hbr := bstep hbr hbx)
                go_roundw
                case rel => exact ⟨k + 2, r, by go_num, by omega, hbr, HN, HR⟩
                case measure => simp [intOf]; omega
            · rw [u] at hd
              simp only [List.cons_append, List.nil_append] at hd
              obtain ⟨_, g1, g2⟩ := drop_cons_get hd
              obtain ⟨hk1, g3, g4⟩ := drop_cons_get g2
              obtain ⟨hk2, g5, g6⟩ := drop_cons_get g4
              obtain ⟨hk3, g7, g8⟩ := drop_cons_get g6
              have HN := Lib.hid g8
              obtain ⟨P, hP'⟩ : ∃ T : ByteArray, (⟨([37] : Bs).toArray⟩ : ByteArray) = T := ⟨_, rfl⟩
              obtain ⟨T, hT'⟩ : ∃ T : ByteArray, (⟨([120] : Bs).toArray⟩ : ByteArray) = T := ⟨_, rfl⟩
              have hc0 := hcell' k hlt
              rw [g1, hP'] at hc0
              have hc1 := hcell' (k + 1) hk1
              rw [g3, hT'] at hc1
              have hc2 := hcell' (k + 2) hk2
              have hc3 := hcell' (k + 3) hk3
              obtain ⟨H, hH'⟩ : ∃ T : ByteArray, (⟨([hexd x] : Bs).toArray⟩ : ByteArray) = T := ⟨_, rfl⟩
              obtain ⟨G, hG'⟩ : ∃ T : ByteArray, (⟨([hexd y] : Bs).toArray⟩ : ByteArray) = T := ⟨_, rfl⟩
              have g5' : L[k + 2] = [hexd x] := g5
              have g7' : L[k + 3] = [hexd y] := g7
              rw [g5', hH'] at hc2
              rw [g7', hG'] at hc3
              have d1 := fun W hW => class_any T W hW
              have d2 : ∀ W, Calls Tryd.prog 30 #[.string H] W fun e w' => e = .returned (.bool true) ∧ W = w' := fun W => by rw [← hH']; exact hexdig_any _ W rfl (hexd_range x hx)
              have d3 : ∀ W, Calls Tryd.prog 30 #[.string G] W fun e w' => e = .returned (.bool true) ∧ W = w' := fun W => by rw [← hG']; exact hexdig_any _ W rfl (hexd_range y hy)
              generalize classL T.data.toList = x1 at d1
              have f37 : (P.toList == [37]) = true := by rw [← hP', Lib.toList_data]; rfl
              have f120 : (T.toList == [120]) = true := by rw [← hT', Lib.toList_data]; rfl
              clear hH' hG' hT' hP' g1 g2 g3 g4 g5 g6 g7 g8 g5' g7' hd u hpt hcell' HD HQ
              go_wp2_with (first
                | (go_at_call 13; refine (d1 _ (hT.below hAr)).mono ?_; rintro e wx ⟨rfl, hbx⟩; replace hc1 := (hbx.cell (cell_lt hc1)).trans hc1; replace hc2 := (hbx.cell (cell_lt hc2)).trans hc2; replace hc3 := (hbx.cell (cell_lt hc3)).trans hc3; replace hAr := bstep hAr hbx; replace hbr := bstep hbr hbx)
                | (go_at_call_of 30 (Value.string H); refine (d2 _).mono ?_; rintro e wx ⟨rfl, rfl⟩)
                | (go_at_call_of 30 (Value.string G); refine (d3 _).mono ?_; rintro e wx ⟨rfl, rfl⟩))
              go_roundw
              case rel => exact ⟨k + 4, r, by go_num, by omega, hbr, HN, HR⟩
              case measure => simp [intOf]; omega
          · obtain rfl : k = L.length := by omega
            clear hrow HC HD HQ HL HP
            go_wp2_with (go_at_call 17; refine (awake_any _ (hT.below hAr)).mono ?_; rintro e w8 ⟨rfl, hb8⟩; have hA8 := bstep hAr hb8)
            go_returns
            exact ⟨rfl, hA8⟩
end Go.Proofs.YtbpfbceagdikoaaDoor
