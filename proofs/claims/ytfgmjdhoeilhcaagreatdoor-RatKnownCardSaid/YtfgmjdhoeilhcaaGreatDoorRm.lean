/- Walks: Mul of nat. -/
import Derived.Test.YtfgmjdhoeilhcaaGreatDoorRa
import Derived.Test.YtfgmjdhoeilhcaaGreatDoorNz
import Derived.OwnWalk
namespace Go.Proofs.YtfgmjdhoeilhcaaGreatDoor
open Go.RowKit
set_option linter.unusedVariables false

/-- a row of blocks that the call itself has made -/
def Made (B g n : Nat) (L : List Nat) (w : World) : Prop := L.length = n ∧ w.ownsRow B 89 1 (.slice (some ⟨g, 0, none⟩) n n) n (L.map U)

theorem Made.cell {B g n : Nat} {L : List Nat} {w : World} (h : Made B g n L w) {j : Nat} (hj : j < L.length) : w.cell? ⟨g, j, none⟩ = some (.int .u64 L[j]) := by
  have hn : j < n := by have := h.1; omega
  rcases h.2.2 with ⟨h', _⟩ | ⟨g', cap', cur, h', _, hg, _, _, _, htake⟩
  · simp at h'
  · simp only [Value.slice.injEq, Option.some.injEq, Addr.mk.injEq, and_true, true_and] at h'
    obtain ⟨rfl, rfl⟩ := h'
    rw [cell_of_row w g j cur 89 (0, 0) hg]
    have h2 : (L.map U)[j]? = some (U L[j]) := getU hj
    rw [← htake, List.getElem?_take, if_pos (by omega)] at h2
    simp only [Array.getElem?_toList] at h2
    exact h2
theorem Made.frozen {B g n : Nat} {L : List Nat} {w : World} (h : Made B g n L w) (j : Nat) : w.frozen? ⟨g, j, none⟩ = false := World.ownsRow.frozenAt h.2 j
theorem Made.row {B g n : Nat} {L : List Nat} {w : World} (h : Made B g n L w) : RowAt w (some ⟨g, 0, none⟩) (L.map U) := fun hne => by
  have hp : 0 < L.length := List.length_pos_iff.2 (fun e => hne (by rw [e]; rfl))
  refine ⟨g, 0, rfl, cell_lt (h.cell hp), fun j u hu => ?_⟩
  rw [Nat.zero_add]
  rcases Nat.lt_or_ge j L.length with hj | hj
  · rw [getU hj] at hu
    injection hu with hu
    rw [← hu]
    exact h.cell hj
  · rw [List.getElem?_eq_none (by rw [List.length_map]; exact hj)] at hu; cases hu
theorem Made.store {B g n : Nat} {L : List Nat} {w : World} (h : Made B g n L w) (j v : Nat) : Made B g n (L.set j v) (w.setCell ⟨g, j, none⟩ (.int .u64 v)) := by
  refine ⟨by rw [List.length_set]; exact h.1, ?_⟩
  rw [List.map_set]
  exact (World.ownsRow.stored h.2 j (U v)).1

set_option maxHeartbeats 1000000 in
set_option maxRecDepth 100000 in
theorem nmul_any (a b : ByteArray) (w : World) (hT : Tabs w) (ha : a.size ≤ 9223372036854775807) (hb : b.size ≤ 9223372036854775807) :
    Calls Tryz.prog 52 #[.string a, .string b] w (TxtPost w (natMul a.data.toList b.data.toList)) := by
  by_cases hok : okN a.data.toList = true ∧ okN b.data.toList = true
  · obtain ⟨hoa, hob⟩ := hok
    have HK : Hid (natMul a.data.toList b.data.toList = limN (decV a.data.toList * decV b.data.toList)) := by unfold Hid natMul; rw [if_pos ⟨hoa, hob⟩]
    have va := fun W => nvalid_any a W ha
    have vb := fun W => nvalid_any b W hb
    rw [hoa] at va
    rw [hob] at vb
    have ba := fun W => nblocks_any a W hoa
    have bb := fun W => nblocks_any b W hob
    have la := okN_blk hoa
    have lb := okN_blk hob
    generalize decV a.data.toList = m at *
    generalize decV b.data.toList = n at *
    clear hoa hob
    obtain ⟨i0, hi, hz0, hz1, hz2⟩ := info_parts u64Info
    have hA : Below w.heap.size w w := Below.refl _ _
    go_enter Tryz.func52, Tryz.ntmps52
    go_wp2_with (first | (go_at_call_of 37 (Value.string a); refine (va _).mono ?_; rintro e w2 ⟨rfl, rfl⟩) | (go_at_call_of 37 (Value.string b); refine (vb _).mono ?_; rintro e w2 ⟨rfl, rfl⟩))
    refine (ba _).mono ?_
    rintro e w1 ⟨A1, c1, rfl, h1, r1, b1⟩
    have hA1 := bstep hA b1
    go_wp2_with fail
    refine (bb _).mono ?_
    rintro e w2 ⟨A2, c2, rfl, h2, r2, b2⟩
    have hA2 := bstep hA1 b2
    have r1' := r1.below b2
    clear r1
    have hxl := blk_lt m
    have hyl := blk_lt n
    have HVx := Lib.hid (blk_val m)
    have HVy := Lib.hid (blk_val n)
    have HX := Lib.hid hxl
    have HY := Lib.hid hyl
    have l3 := blk_len_mul la lb
    clear hxl hyl
    generalize blk m = x at *
    generalize blk n = y at *
    obtain ⟨N, hN⟩ : ∃ N, x.length + y.length + 1 = N := ⟨_, rfl⟩
    have hNi : (x.length : Int) + (y.length : Int) + 1 = (N : Int) := by omega
    obtain ⟨g, hg⟩ : ∃ g, w2.heap.size = g := ⟨_, rfl⟩
    go_wp2_with (at_make; refine wpList_make_full _ rfl (.tmp 30) (.tmp 30) 87 rfl w2.heap.size 89 i0 (.int .u64 0) 1 Tryz.underlying87 hi hz0 hz1 .i64 .i64 _ _ N rfl rfl (by omega) (by omega) (by rw [hz2]; omega) (by unfold maxLen; omega) (Nat.le_refl _) ?_; intro w3 own3 hg3)
    have hmade : (madeCells (Value.int .u64 0).cells (N * 1)).toList = (List.replicate N 0).map U := by
      rw [Nat.mul_one, List.map_replicate]
      exact toList_madeCells_one (.int .u64 0) N
    rw [hmade] at own3
    have hb3 : Below w2.heap.size w2 w3 := (Below.refl _ _).grown hg3 (Nat.le_refl _) (by simp)
    clear hmade hg3
    have hrx := r1'.below hb3
    have hry := r2.below hb3
    go_loopw [34] (fun i wr => ∃ (j0 : Nat) (L : List Nat), i = .int .i64 j0 ∧ j0 ≤ x.length ∧ Below w2.heap.size w2 wr ∧ Made w2.heap.size g N L wr ∧ Hid (∀ d ∈ L, d < BB) ∧ Hid (valL BB L = valL BB (x.take j0) * valL BB y)) (fun i _ => x.length - (intOf i).toNat)
    case atStart => exact ⟨0, List.replicate N 0, rfl, by omega, hb3, ⟨by simp, by rw [hg] at own3 ⊢; exact own3⟩, fun d hd => by rw [List.eq_of_mem_replicate hd]; exact BB_pos, by rw [Hid, valL_zeros]; simp [valL]⟩
    case round =>
      obtain ⟨i1, L, rfl, hi1, hbr, hmd, HL, HV⟩ := hrel
      by_cases hlt : i1 < x.length
      · have hV0 := HV.out
        go_wp2_with fail
        go_loopw [10, 40] (fun cy k wr' => ∃ (k0 q : Nat) (L' : List Nat), k = .int .i64 k0 ∧ k0 ≤ y.length + 1 ∧ cy = .int .u64 q ∧ q < 1000000000 ∧ Below w2.heap.size w2 wr' ∧ Made w2.heap.size g N L' wr' ∧ Hid (∀ d ∈ L', d < BB) ∧ Hid (valL BB L' + BB ^ (i1 + k0) * q = valL BB L + BB ^ i1 * (x[i1] * valL BB (y.take k0)))) (fun _ k _ => y.length + 1 - (intOf k).toNat)
        case atStart => exact ⟨0, 0, L, rfl, by omega, rfl, by omega, hbr, hmd, HL, by simp [Hid, valL]⟩
        case round =>
          obtain ⟨k0, q, L', rfl, hk0, rfl, hq, hbr', hmd', HL', HI⟩ := hrel
          have hLn := hmd'.1
          by_cases hlt2 : k0 < y.length + 1
          · obtain ⟨j, hj⟩ : ∃ j, i1 + k0 = j := ⟨_, rfl⟩
            have hjL : j < L'.length := by omega
            have hcg := hmd'.cell hjL
            have hfg := hmd'.frozen j
            have hgB : w2.heap.size ≤ g := by omega
            obtain ⟨bx, ox, rfl, hblx, hcellx⟩ := (r1'.below hbr') (by intro e; rw [List.map_eq_nil_iff] at e; rw [e] at hlt; simp at hlt)
            have hcx : _ = some (Value.int .u64 x[i1]) := hcellx i1 _ (getU hlt)
            have ha1 := HL'.out _ (List.getElem_mem hjL)
            have hx1 := HX.out _ (List.getElem_mem hlt)
            have hy1 := getD_lt BB_pos HY.out k0
            have hsq := BB_sq ha1 (show q < BB from hq) hx1 hy1
            have HST := Lib.hid (mul_step' BB_pos hj hjL HI.out (valL_take BB y k0))
            clear hcellx
            generalize x[i1] = xi at hcx hx1 hsq HST
            generalize L'[j] = a0 at hcg ha1 hsq HST
            obtain ⟨yk, hyk⟩ : ∃ yk, y.getD k0 0 = yk := ⟨_, rfl⟩
            rw [hyk] at hy1 hsq HST
            obtain ⟨pp, hpp⟩ : ∃ pp, xi * yk = pp := ⟨_, rfl⟩
            have hpi : (xi : Int) * (yk : Int) = (pp : Int) := by rw [← hpp]; exact (Int.natCast_mul xi yk).symm
            rw [hpp] at hsq HST
            obtain ⟨hs1, hs2⟩ := hsq
            have HS2 := Lib.hid hs2
            have HSL := Lib.hid (set_lt (j := j) HL'.out (Nat.mod_lt (a0 + q + pp) BB_pos))
            have ha2 : a0 < 1000000000 := ha1
            have hji : (i1 : Int) + (k0 : Int) = (j : Int) := by omega
            have jb0 : (0 : Int) ≤ (j : Int) := by omega
            have jb1 : (j : Int) < (N : Int) := by omega
            have kb0 : (0 : Int) ≤ (k0 : Int) := by omega
            have ib0 : (0 : Int) ≤ (i1 : Int) := by omega
            have ib1 : (i1 : Int) < (x.length : Int) := by omega
            have HJ := Lib.hid hj
            have hst := hmd'.store j ((a0 + q + pp) % BB)
            have hstd : Made w2.heap.size g N (L'.set j ((a0 + q + pp) % BB)) (World.drew _ |>.setCell ⟨g, j, none⟩ (.int .u64 ((a0 + q + pp) % BB : Nat))) := hst
            have HV1 : Hid ((((a0 + q + pp) % BB : Nat) : Int) = ((a0 : Int) + (q : Int) + (pp : Int)) % 1000000000) := by unfold Hid BB; omega
            have HV2 : Hid ((((a0 + q + pp) / BB : Nat) : Int) = ((a0 : Int) + (q : Int) + (pp : Int)) / 1000000000) := by unfold Hid BB; omega
            have hbs := hbr'.setCell (p := ⟨g, j, none⟩) hgB (.int .u64 ((a0 + q + pp) % BB : Nat))
            have hbsd := hbr'.drew.setCell (p := ⟨g, j, none⟩) hgB (.int .u64 ((a0 + q + pp) % BB : Nat))
            rw [HV1.out] at hst hstd hbs hbsd
            have hp0 : yk = 0 → pp = 0 := fun h => by rw [← hpp, h]; rfl
            clear hs2 hpp ha1 hj
            by_cases hky : k0 < y.length
            · obtain ⟨by', oy, rfl, hbly, hcelly⟩ := (r2.below hbr') (by intro e; rw [List.map_eq_nil_iff] at e; rw [e] at hky; simp at hky)
              have hcy : wr.cell? ⟨by', oy + k0, none⟩ = some (.int .u64 yk) := by rw [← hyk, getD_eq hky]; exact hcelly k0 _ (getU hky)
              have kb1 : (k0 : Int) < (y.length : Int) := by omega
              have q1 : IntKind.u64.wrap ((pp : Int)) = (pp : Int) := by rw [IntKind.wrap_u64]; omega
              have q2 : IntKind.u64.wrap ((a0 : Int) + (q : Int) + (pp : Int)) = (a0 : Int) + (q : Int) + (pp : Int) := by rw [IntKind.wrap_u64]; omega
              clear hcelly hyk hp0
              go_wp2_with fail
              go_region_held3 (fun w' => w'.cell? ⟨bx, ox + i1, none⟩ = some (.int .u64 xi) ∧ w'.cell? ⟨by', oy + k0, none⟩ = some (.int .u64 yk) ∧ w'.cell? ⟨g, j, none⟩ = some (.int .u64 a0) ∧ w'.frozen? ⟨g, j, none⟩ = false) (first | assumption | exact ⟨hcx, hcy, hcg, hfg⟩) (fail)
              all_goals go_wp2_with fail
              all_goals go_roundw
              all_goals first
                | (case rel => exact ⟨k0 + 1, (a0 + q + pp) / BB, L'.set j ((a0 + q + pp) % BB), by go_num, by omega, by rw [HV2.out], HS2.out, hbsd, hstd, HSL.out, HST.out⟩)
                | (case measure => simp [intOf]; omega)
            · have hyk0 : yk = 0 := by rw [← hyk, getD_far (by omega)]
              obtain rfl := hp0 hyk0
              clear hyk
              go_wp2_with fail
              go_roundw
              case rel => exact ⟨k0 + 1, (a0 + q + 0) / BB, L'.set j ((a0 + q + 0) % BB), by go_num, by omega, by rw [HV2.out]; simp, HS2.out, by simpa using hbs, by simpa using hst, HSL.out, HST.out⟩
              case measure => simp [intOf]; omega
          · obtain rfl : k0 = y.length + 1 := by omega
            have h1 := HI.out
            rw [List.take_of_length_le (by omega), HV.out] at h1
            obtain ⟨hq0, hS⟩ := mul_carry BB_pos HX.out HY.out hlt h1
            have HS := Lib.hid hS
            clear h1 hq0 hS
            go_wp2_with fail
            go_roundw
            case rel => exact ⟨i1 + 1, L', by go_num, by omega, hbr', hmd', HL', HS⟩
            case measure => simp [intOf]; omega
      · obtain rfl : i1 = x.length := by omega
        have hV := HV.out
        rw [List.take_length, HVx.out, HVy.out] at hV
        have hLn := hmd.1
        have hrow := hmd.row
        have HT : Hid (trimL L = blk (m * n)) := by rw [Hid, trimL_eq BB_two HL.out, hV]; rfl
        have ht := trim_any (some ⟨g, 0, none⟩) N L wr hrow (by omega) (by omega)
        have HTK := Lib.hid (trimL_take L)
        have hrt := hrow.take (trimL L).length
        rw [← List.map_take, ← HTK.out, HT.out] at hrt
        rw [hLn, HT.out] at ht
        have hAw := bstep hA2 hbr
        have hlim := limited_any (some ⟨g, 0, none⟩) N (m * n) wr (hT.below hAw) hrt (by omega)
        clear hV hrow hrt hmd
        go_wp2_with (first
          | (go_at_call 85; refine ht.mono ?_; rintro e wx ⟨rfl, rfl⟩)
          | (go_at_call 84; refine hlim.mono ?_; rintro e wx ⟨rfl, hbx⟩; have hAx := bstep hAw hbx))
        go_returns
        unfold TxtPost
        rw [HK.out]
        exact ⟨rfl, hAx⟩
  · refine (nmul_bad a b w ha hb hok).mono ?_
    rintro e w' ⟨rfl, rfl⟩
    unfold TxtPost natMul
    rw [if_neg hok]
    exact ⟨rfl, Below.refl _ _⟩
end Go.Proofs.YtfgmjdhoeilhcaaGreatDoor
