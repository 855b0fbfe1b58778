/- Walks of the reference of nat: Gcd. -/
import Derived.Test.YtfgmjdhoeilhcaaGreatDoorSj
namespace Go.Proofs.YtfgmjdhoeilhcaaGreatDoor
open Go.RowKit
set_option linter.unusedVariables false

theorem okN_dec {n : Nat} (h : (decT n).length ≤ 1000) : okN (decT n) = true := (okN_iff _).2 ⟨okT_decT n, h⟩
theorem natDiv_dec {l k : Bs} {m n : Nat} (hl : l = decT m) (hk : k = decT n) (h1 : l.length ≤ 1000) (h2 : k.length ≤ 1000) (hn : n ≠ 0) : natDiv l k = (decT (m / n), decT (m % n), 0) := by
  subst hl hk
  unfold natDiv
  rw [if_pos ⟨okN_dec h1, okN_dec h2⟩, decV_decT, decV_decT, if_neg hn]

set_option maxHeartbeats 2000000 in
set_option maxRecDepth 100000 in
theorem rgcd_any (a b : ByteArray) (w : World) (ha : a.size ≤ 9223372036854775807) (hb : b.size ≤ 9223372036854775807) :
    Calls Tryz.prog 36 #[.string a, .string b] w (TxtPost w (natGcd a.data.toList b.data.toList)) := by
  by_cases hok : okN a.data.toList = true ∧ okN b.data.toList = true
  · obtain ⟨hoa, hob⟩ := hok
    have HK : Hid (natGcd a.data.toList b.data.toList = (decT (Nat.gcd (decV a.data.toList) (decV b.data.toList)), 0)) := by unfold Hid natGcd; rw [if_pos ⟨hoa, hob⟩]
    have va := fun W => rvalid_any a W ha
    have vb := fun W => rvalid_any b W hb
    rw [hoa] at va
    rw [hob] at vb
    have sa := okN_size hoa
    have sb := okN_size hob
    have HTA := Lib.hid (decT_decV ((okN_iff _).1 hoa).1)
    have HTB := Lib.hid (decT_decV ((okN_iff _).1 hob).1)
    generalize decV a.data.toList = m at *
    generalize decV b.data.toList = n at *
    clear hoa hob
    have hA : Below w.heap.size w w := Below.refl _ _
    go_enter Tryz.func36, Tryz.ntmps36
    go_wp2_with (first | (go_at_call_of 41 (Value.string a); refine (va _).mono ?_; rintro e w2 ⟨rfl, rfl⟩) | (go_at_call_of 41 (Value.string b); refine (vb _).mono ?_; rintro e w2 ⟨rfl, rfl⟩))
    clear va vb
    go_loopw [0, 1] (fun x y wr => ∃ (X Y : ByteArray) (m1 n1 : Nat), x = .string X ∧ y = .string Y ∧ Hid (X.data.toList = decT m1) ∧ Hid (Y.data.toList = decT n1) ∧ X.size ≤ 1000 ∧ Y.size ≤ 1000 ∧ Below w.heap.size w wr ∧ Hid (Nat.gcd m1 n1 = Nat.gcd m n)) (fun _ y _ => strDec y)
    case atStart => exact ⟨a, b, m, n, rfl, rfl, HTA.out.symm, HTB.out.symm, sa, sb, hA, rfl⟩
    case round =>
      obtain ⟨X, Y, m1, n1, rfl, rfl, HX, HY, sX, sY, hbr, HG⟩ := hrel
      have h48 := str_is48 HY.out
      by_cases hn : n1 = 0
      · rw [decide_eq_true hn] at h48
        have hg := HG.out
        rw [hn, Nat.gcd_zero_right] at hg
        have HR : Hid ((⟨(decT (Nat.gcd m n)).toArray⟩ : ByteArray) = X) := data_of (by rw [HX.out, hg])
        clear hg hn
        go_wp2_with fail
        go_returns
        unfold TxtPost
        rw [HK.out]
        show _ = Ending.returned (.tuple #[.string ⟨(decT (Nat.gcd m n)).toArray⟩, _]) ∧ _
        rw [HR.out]
        exact ⟨rfl, hbr⟩
      · rw [decide_eq_false hn] at h48
        have hd := rdiv_any X Y wr (by omega) (by omega)
        rw [natDiv_dec HX.out HY.out (by rw [← Lib.size_eq]; exact sX) (by rw [← Lib.size_eq]; exact sY) hn] at hd
        have HG2 : Hid (Nat.gcd n1 (m1 % n1) = Nat.gcd m n) := by rw [Hid, ← HG.out, Nat.gcd_comm n1, ← Nat.gcd_rec, Nat.gcd_comm]
        have hlt := Nat.mod_lt m1 (Nat.pos_of_ne_zero hn)
        obtain ⟨Z, hZ⟩ : ∃ Z : ByteArray, (⟨(decT (m1 % n1)).toArray⟩ : ByteArray) = Z := ⟨_, rfl⟩
        have hZd : Z.data.toList = decT (m1 % n1) := by rw [← hZ]
        have sZ : Z.size ≤ 1000 := by
          rw [Lib.size_eq, hZd]
          refine Nat.le_trans (decT_mono (Nat.le_of_lt hlt)) ?_
          rw [← HY.out, ← Lib.size_eq]; exact sY
        have HZ := Lib.hid hZd
        have HLT := Lib.hid hlt
        unfold Txt2Post at hd
        simp only [] at hd
        rw [hZ] at hd
        clear hZ hZd hlt hn
        go_wp2_with (go_at_call 42; refine hd.mono ?_; rintro e w3 ⟨rfl, b3⟩; have hb3 := bstep hbr b3)
        go_roundw
        case rel => exact ⟨Y, Z, n1, m1 % n1, rfl, rfl, HY, HZ, sY, sZ, hb3, HG2⟩
        case measure =>
          show decV Z.data.toList < decV Y.data.toList
          rw [decV_of HZ.out, decV_of HY.out]
          exact HLT.out
  · refine (rgcd_bad a b w ha hb hok).mono ?_
    rintro e w' ⟨rfl, rfl⟩
    unfold TxtPost natGcd
    rw [if_neg hok]
    exact ⟨rfl, Below.refl _ _⟩
end Go.Proofs.YtfgmjdhoeilhcaaGreatDoor
