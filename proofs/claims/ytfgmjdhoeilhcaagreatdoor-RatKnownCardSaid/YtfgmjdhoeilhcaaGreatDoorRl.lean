/- Walks: Div and Gcd of nat. -/
import Derived.Test.YtfgmjdhoeilhcaaGreatDoorRk
namespace Go.Proofs.YtfgmjdhoeilhcaaGreatDoor
open Go.RowKit
set_option linter.unusedVariables false

/-- what a function answers that returns two texts and an error -/
def Txt2Post (w : World) (r : Bs × Bs × Nat) (e : Ending) (w' : World) : Prop :=
  e = .returned (.tuple #[.string ⟨r.1.toArray⟩, .string ⟨r.2.1.toArray⟩, .int .i64 r.2.2]) ∧ Below w.heap.size w w'
theorem str48 {b : ByteArray} (h : b.data.toList = [48]) : b = ⟨#[48]⟩ := by
  cases b with
  | mk d => cases d with
    | mk l => simp at h; rw [h]
theorem str_zero {b : ByteArray} (h : okN b.data.toList = true) : decV b.data.toList = 0 ↔ b = ⟨#[48]⟩ := by
  have hb := ((okN_iff _).1 h).1
  constructor
  · intro e
    have e1 := decT_decV hb
    rw [e, decT_zero] at e1
    exact str48 e1.symm
  · rintro rfl; rfl

/-- the number that lies in a cell behind an address -/
def cellNat (w : World) (A : Option Addr) (j : Nat) : Nat := match A with
  | some a => match w.cell? ⟨a.block, a.off + j, none⟩ with
    | some (.int _ x) => x.toNat
    | _ => 0
  | none => 0
/-- the number whose blocks a slice holds -/
def rowVal (w : World) : Value → Nat
  | .slice A n _ => valL BB ((List.range n).map (cellNat w A))
  | _ => 0
theorem rowVal_eq {w : World} {A : Option Addr} {L : List Nat} (c : Nat) (h : RowAt w A (L.map U)) : rowVal w (.slice A L.length c) = valL BB L := by
  show valL BB ((List.range L.length).map (cellNat w A)) = valL BB L
  congr 1
  apply List.ext_getElem
  · simp
  · intro j h1 h2
    obtain ⟨b, o, rfl, hlt, hcell⟩ := h (by intro e; rw [List.map_eq_nil_iff] at e; rw [e] at h2; simp at h2)
    simp only [List.getElem_map, List.getElem_range, cellNat]
    rw [hcell j _ (getU h2)]
    simp [U]
set_option maxHeartbeats 1000000 in
set_option maxRecDepth 100000 in
theorem ndiv_any (a b : ByteArray) (w : World) (hT : Tabs w) (ha : a.size ≤ 9223372036854775807) (hb : b.size ≤ 9223372036854775807) :
    Calls Tryz.prog 93 #[.string a, .string b] w (Txt2Post w (natDiv a.data.toList b.data.toList)) := by
  by_cases hok : okN a.data.toList = true ∧ okN b.data.toList = true
  · obtain ⟨hoa, hob⟩ := hok
    have HK : Hid (natDiv a.data.toList b.data.toList = if decV b.data.toList = 0 then ([], [], 4) else (decT (decV a.data.toList / decV b.data.toList), decT (decV a.data.toList % decV b.data.toList), 0)) := by unfold Hid natDiv; rw [if_pos ⟨hoa, hob⟩]
    have va := fun W => nvalid_any a W ha
    have vb := fun W => nvalid_any b W hb
    rw [hoa] at va
    rw [hob] at vb
    have ba := fun W => nblocks_any a W hoa
    have bb := fun W => nblocks_any b W hob
    have la := okN_blk hoa
    have lb := okN_blk hob
    have hz := str_zero hob
    generalize decV a.data.toList = m at *
    generalize decV b.data.toList = n at *
    clear hoa hob
    have hA : Below w.heap.size w w := Below.refl _ _
    by_cases hn : n = 0
    · have hbe := hz.1 hn
      subst hbe
      have HK2 : Hid (natDiv a.data.toList (⟨#[48]⟩ : ByteArray).data.toList = ([], [], 4)) := by rw [Hid, HK.out, if_pos hn]
      clear hz hn HK
      go_enter Tryz.func93, Tryz.ntmps93
      go_wp2_with (first | (go_at_call_of 37 (Value.string a); refine (va _).mono ?_; rintro e w2 ⟨rfl, rfl⟩) | (go_at_call_of 37 (Value.string ⟨#[48]⟩); refine (vb _).mono ?_; rintro e w2 ⟨rfl, rfl⟩))
      go_returns
      unfold Txt2Post
      rw [HK2.out]
      exact ⟨rfl, hA⟩
    · have hbne : ¬ b = ⟨#[48]⟩ := fun e => hn (hz.2 e)
      have hbeq : (b.toList == [48]) = false := beq_eq_false_iff_ne.2 (fun e => hbne (str48 (by rw [← Lib.toList_data]; exact e)))
      have HK2 : Hid (natDiv a.data.toList b.data.toList = (decT (m / n), decT (m % n), 0)) := by rw [Hid, HK.out, if_neg hn]
      have hdv := fun A B c d W h1 h2 h3 => divide_any A B c d m n W hn h1 h2 (by omega) (by omega) h3
      have l1 : (blk (m / n)).length ≤ 112 := Nat.le_trans (blk_len_mono (Nat.div_le_self _ _)) la
      have l2 : (blk (m % n)).length ≤ 112 := Nat.le_trans (blk_len_mono (Nat.mod_le _ _)) la
      clear hz hn HK
      go_enter Tryz.func93, Tryz.ntmps93
      go_wp2_with (first | (go_at_call_of 37 (Value.string a); refine (va _).mono ?_; rintro e w2 ⟨rfl, rfl⟩) | (go_at_call_of 37 (Value.string b); refine (vb _).mono ?_; rintro e w2 ⟨rfl, rfl⟩))
      refine (ba _).mono ?_
      rintro e w1 ⟨A1, c1, rfl, h1, r1, b1⟩
      have hA1 := bstep hA b1
      go_wp2_with fail
      refine (bb _).mono ?_
      rintro e w2 ⟨A2, c2, rfl, h2, r2, b2⟩
      have hA2 := bstep hA1 b2
      go_wp2_with fail
      refine (hdv A1 A2 c1 c2 _ (r1.below b2) r2 h1).mono ?_
      rintro e w3 ⟨A3, c3, A4, c4, rfl, h3, h4, r3, r4, b3⟩
      have hA3 := bstep hA2 b3
      go_wp2_with fail
      refine (text_any A3 c3 (m / n) _ (hT.below hA3) r3 (by omega)).mono ?_
      rintro e w4 ⟨rfl, b4⟩
      have hA4 := bstep hA3 b4
      go_wp2_with fail
      refine (text_any A4 c4 (m % n) _ (hT.below hA4) (r4.below b4) (by omega)).mono ?_
      rintro e w5 ⟨rfl, b5⟩
      have hA5 := bstep hA4 b5
      go_wp2_with fail
      go_returns
      unfold Txt2Post
      rw [HK2.out]
      exact ⟨rfl, hA5⟩
  · refine (ndiv_bad a b w ha hb hok).mono ?_
    rintro e w' ⟨rfl, rfl⟩
    unfold Txt2Post natDiv
    rw [if_neg hok]
    exact ⟨rfl, Below.refl _ _⟩
set_option maxHeartbeats 1000000 in
set_option maxRecDepth 100000 in
theorem ngcd_any (a b : ByteArray) (w : World) (hT : Tabs w) (ha : a.size ≤ 9223372036854775807) (hb : b.size ≤ 9223372036854775807) :
    Calls Tryz.prog 62 #[.string a, .string b] w (TxtPost w (natGcd a.data.toList b.data.toList)) := by
  by_cases hok : okN a.data.toList = true ∧ okN b.data.toList = true
  · obtain ⟨hoa, hob⟩ := hok
    have HK : Hid (natGcd a.data.toList b.data.toList = (decT (Nat.gcd (decV a.data.toList) (decV b.data.toList)), 0)) := by unfold Hid natGcd; rw [if_pos ⟨hoa, hob⟩]
    have va := fun W => nvalid_any a W ha
    have vb := fun W => nvalid_any b W hb
    rw [hoa] at va
    rw [hob] at vb
    have ba := fun W => nblocks_any a W hoa
    have bb := fun W => nblocks_any b W hob
    have la := okN_blk hoa
    have lb := okN_blk hob
    generalize decV a.data.toList = m at *
    generalize decV b.data.toList = n at *
    clear hoa hob
    have hA : Below w.heap.size w w := Below.refl _ _
    go_enter Tryz.func62, Tryz.ntmps62
    go_wp2_with (first | (go_at_call_of 37 (Value.string a); refine (va _).mono ?_; rintro e w2 ⟨rfl, rfl⟩) | (go_at_call_of 37 (Value.string b); refine (vb _).mono ?_; rintro e w2 ⟨rfl, rfl⟩))
    refine (ba _).mono ?_
    rintro e w1 ⟨A1, c1, rfl, h1, r1, b1⟩
    have hA1 := bstep hA b1
    go_wp2_with fail
    refine (bb _).mono ?_
    rintro e w2 ⟨A2, c2, rfl, h2, r2, b2⟩
    have hA2 := bstep hA1 b2
    have r1' := r1.below b2
    go_wp2_with fail
    go_loopw [6, 7] (fun x y wr => ∃ (m1 n1 c1 c2 : Nat) (A1 A2 : Option Addr), x = .slice A1 (blk m1).length c1 ∧ y = .slice A2 (blk n1).length c2 ∧ (blk m1).length ≤ c1 ∧ (blk n1).length ≤ c2 ∧ RowAt wr A1 ((blk m1).map U) ∧ RowAt wr A2 ((blk n1).map U) ∧ (blk m1).length ≤ 112 ∧ (blk n1).length ≤ 112 ∧ Below w.heap.size w wr ∧ Hid (Nat.gcd m1 n1 = Nat.gcd m n)) (fun _ y W => rowVal W y)
    case atStart => exact ⟨m, n, c1, c2, A1, A2, rfl, rfl, h1, h2, r1', r2, la, lb, hA2, rfl⟩
    case round =>
      obtain ⟨m1, n1, d1, d2, D1, D2, rfl, rfl, h3, h4, r3, r4, l3, l4, hb, HG⟩ := hrel
      clear r1' r1 r2 h1 h2 hA1 hA2 va vb ba bb
      have HRV := Lib.hid (rowVal_eq d2 r4)
      by_cases hn : n1 = 0
      · subst hn
        have hg := HG.out
        rw [Nat.gcd_zero_right] at hg
        have ht := text_any D1 d1 m1 wr (hT.below hb) r3 (by omega)
        have HG2 := Lib.hid hg
        have hz : (blk 0).length = 0 := rfl
        rw [hz]
        clear hg HRV r4 hz l4 h4
        obtain ⟨F, hF⟩ : ∃ F : ByteArray, (⟨(decT m1).toArray⟩ : ByteArray) = F := ⟨_, rfl⟩
        rw [hF] at ht
        have HF := Lib.hid hF
        clear hF
        generalize (blk m1).length = N1 at *
        go_wp2_with fail
        refine ht.mono ?_
        rintro e w5 ⟨rfl, b5⟩
        have hA5 := bstep hb b5
        go_wp2_with fail
        go_returns
        unfold TxtPost
        rw [HK.out, ← HG2.out]
        show _ = Ending.returned (.tuple #[.string ⟨(decT m1).toArray⟩, _]) ∧ _
        rw [HF.out]
        exact ⟨rfl, hA5⟩
      · have hpos := List.length_pos_iff.2 (blk_ne hn)
        have hdv := divide_any D1 D2 d1 d2 m1 n1 wr hn r3 r4 (by omega) (by omega) h3
        have l5 : (blk (m1 % n1)).length ≤ 112 := Nat.le_trans (blk_len_mono (Nat.mod_le _ _)) l3
        have HG2 : Hid (Nat.gcd n1 (m1 % n1) = Nat.gcd m n) := by rw [Hid, ← HG.out, Nat.gcd_comm n1, ← Nat.gcd_rec, Nat.gcd_comm]
        have HLT := Lib.hid (Nat.mod_lt m1 (Nat.pos_of_ne_zero hn))
        go_wp2_with fail
        refine hdv.mono ?_
        rintro e w3 ⟨A3, c3, A4, c4, rfl, h5, h6, r5, r6, b3⟩
        go_wp2_with fail
        go_roundw
        case rel => exact ⟨n1, m1 % n1, d2, c4, D2, A4, rfl, rfl, h4, h6, r4.below b3, r6, l4, l5, bstep hb b3, HG2⟩
        case measure =>
          have e1 := rowVal_eq c4 r6
          rw [e1, HRV.out, blk_val, blk_val]
          exact HLT.out
  · refine (ngcd_bad a b w ha hb hok).mono ?_
    rintro e w' ⟨rfl, rfl⟩
    unfold TxtPost natGcd
    rw [if_neg hok]
    exact ⟨rfl, Below.refl _ _⟩
end Go.Proofs.YtfgmjdhoeilhcaaGreatDoor
