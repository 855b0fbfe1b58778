/- Walks of layer 1: unit, Unquote. -/
import Derived.Test.YtbpfbceagdikoaaDoorW9
import Derived.Test.YtbpfbceagdikoaaDoorW7
namespace Go.Proofs.YtbpfbceagdikoaaDoor
open Go.RowKit
set_option linter.unusedVariables false

set_option maxHeartbeats 2000000 in
set_option maxRecDepth 100000 in
theorem unit_any (s : ByteArray) (w : World) (hT : Tabs w) (h0 : 0 < s.size) (hs : s.size ≤ 1000000000000) :
    Calls Tryd.prog 42 #[.string s] w fun e w' => e = .returned (.tuple #[.string ⟨(unitT s.data.toList).1.toArray⟩, .int .i64 (unitT s.data.toList).2]) ∧ Below w.heap.size w w' := by
  have hA : Below w.heap.size w w := Below.refl _ _
  have hd := byte0 s h0
  by_cases h37 : s[0] = 37
  · have e37 : (((s[0].toNat : Nat) : Int) != 37) = false := by rw [h37]; rfl
    have h37l : s.data.toList.headD 0 = 37 := by rw [← hd]; exact h37
    clear hd h37
    by_cases hsz : s.size < 2
    · have HU := Lib.hid (unitT_short s hsz h37l)
      have hz : s.size = 1 := by omega
      have hz1 : (s.size : Int) < 4 := by omega
      have hz2 : (s.size : Int) < 2 := by omega
      clear hz hsz
      go_enter Tryd.func42, Tryd.ntmps42
      go_wp2_with fail
      go_returns
      exact ⟨by rw [HU.out]; rfl, hA⟩
    · have hs1 : 1 < s.size := by omega
      have hre : ¬ (s.extract 1 s.size).size = 0 := by rw [Lib.size_eq, ext_data]; simp; omega
      have hpc := fun W h => piece_any (s.extract 1 s.size) W h
      have hn1 := dec_bd (s.extract 1 s.size) hre
      have hsE : (s.extract 1 s.size).size = s.size - 1 := by rw [Lib.size_eq, ext_data]; simp
      have hut := unitT_tail s hs1 h37l
      have hux := unitT_hex s h37l
      obtain ⟨r, hr⟩ : ∃ r, (Lib.decodeGo (s.extract 1 s.size)).1 = r := ⟨_, rfl⟩
      obtain ⟨n, hn⟩ : ∃ n, (Lib.decodeGo (s.extract 1 s.size)).2 = n := ⟨_, rfl⟩
      rw [hr, hn] at hpc
      rw [hn] at hn1 hut
      clear hr hn
      have hn2 : 1 ≤ n ∧ 1 + n ≤ s.size := by omega
      clear hn1 hsE hre hsz
      obtain ⟨hn2, hn3⟩ := hn2
      by_cases h4 : 4 ≤ s.size
      · have hx0 : ∃ x y, s.extract 2 4 = ⟨#[x, y]⟩ ∧ s.data.toList.getD 2 0 = x ∧ s.data.toList.getD 3 0 = y := ext_two s h4
        obtain ⟨x, y, hxy, hgx, hgy⟩ := hx0
        rw [hgx, hgy] at hut hux
        by_cases h120 : s[1] = 120
        · have e120 : (((s[1].toNat : Nat) : Int) == 120) = true := by rw [h120]; rfl
          have h120l : s.data.toList.getD 1 0 = 120 := by rw [← byte1 s hs1]; exact h120
          clear h120 hgx hgy
          obtain ⟨o, ho⟩ : ∃ o, hex2 x y = o := ⟨_, rfl⟩
          cases o with
          | none =>
            have HU := Lib.hid (hut (fun hh => by rw [ho] at hh; simp at hh))
            have hpb := fun W h => parse_bad x y W h ho
            clear hut hux ho h120l
            go_enter Tryd.func42, Tryd.ntmps42
            go_wp2_with (first | (go_at_call 55; refine (hpb _ hT).mono ?_; rintro e w1 ⟨N, rfl, hb1⟩; have hB1 := bstep hA hb1) | (go_at_call 34; refine (hpc _ (hT.below hB1)).mono ?_; rintro e w2 ⟨rfl, hb2⟩; have HB := bstep hB1 hb2))
            go_returns
            exact ⟨by rw [HU.out.1, HU.out.2]; rfl, HB⟩
          | some m =>
            have HU := Lib.hid (hux m h4 h120l ho)
            have hm := hex2_lt ho
            have hpo := fun W => parse_ok x y m W ho
            have hcv := fun W => conv_lit [UInt8.ofNat m] W
            have e1 : Lib.byteCells [UInt8.ofNat m] = [.int .u8 m] := by simp [Lib.byteCells]; omega
            simp only [e1] at hcv
            have hcv' : ∀ W : World, (convert 42 9 (.slice (some ⟨W.heap.size, 0, none⟩) 1 1)).run Tryd.prog (W.alloc (.cells #[.int .u8 m] 5)) = .ok (.string ⟨[UInt8.ofNat m].toArray⟩) (W.alloc (.cells #[.int .u8 m] 5)) := hcv
            have hmi : (m : Int) ≤ 255 := by omega
            have hmi0 : (0 : Int) ≤ (m : Int) := by omega
            generalize UInt8.ofNat m = mb at HU hcv'
            clear hut hux ho h120l hcv e1 hm hpc
            obtain ⟨M, hM⟩ : ∃ M : Int, (m : Int) = M := ⟨_, rfl⟩
            rw [hM] at hmi hmi0
            simp only [hM] at hpo hcv'
            clear hM
            go_enter Tryd.func42, Tryd.ntmps42
            go_wp2_with (first | (go_at_call 55; refine (hpo _).mono ?_; rintro e w1 ⟨rfl, hb1⟩; have hB1 := bstep hA hb1))
            go_returns
            exact ⟨by rw [HU.out]; rfl, by have := hB1.size; go_grown⟩
        · skip
          have HU := Lib.hid (hut (fun hh => h120 (by rw [byte1 s hs1]; exact hh.2.1)))
          have e120 : (((s[1].toNat : Nat) : Int) == 120) = false := eq120 _ h120
          clear hut hux
          go_enter Tryd.func42, Tryd.ntmps42
          go_wp2_with (first | (go_at_call 34; refine (hpc _ hT).mono ?_; rintro e w2 ⟨rfl, hb2⟩))
          go_returns
          exact ⟨by rw [HU.out.1, HU.out.2]; rfl, hb2⟩
      · skip
        have HU := Lib.hid (hut (fun hh => h4 (by rw [Lib.size_eq]; exact hh.1)))
        have h4' : (s.size : Int) < 4 := by omega
        clear hut hux
        go_enter Tryd.func42, Tryd.ntmps42
        go_wp2_with (first | (go_at_call 34; refine (hpc _ hT).mono ?_; rintro e w2 ⟨rfl, hb2⟩))
        go_returns
        exact ⟨by rw [HU.out.1, HU.out.2]; rfl, hb2⟩
  · have hpc := piece_any s w hT
    have hz := dec_bd s (by omega)
    have HU : Hid ((unitT s.data.toList).1 = (s.extract 0 (Lib.decodeGo s).2).data.toList ∧ (unitT s.data.toList).2 = (Lib.decodeGo s).2) := unitT_plain s h0 (by rw [← hd]; exact h37)
    obtain ⟨r, hr⟩ : ∃ r, (Lib.decodeGo s).1 = r := ⟨_, rfl⟩
    obtain ⟨n, hn⟩ : ∃ n, (Lib.decodeGo s).2 = n := ⟨_, rfl⟩
    rw [hr, hn] at hpc
    rw [hn] at HU hz
    obtain ⟨hz1, hz2⟩ := hz
    have e37 : (((s[0].toNat : Nat) : Int) != 37) = true := ne37 _ h37
    clear hr hn h37 hd
    go_enter Tryd.func42, Tryd.ntmps42
    go_wp2_with (go_at_call 34; refine hpc.mono ?_; rintro e w1 ⟨rfl, hb⟩)
    go_returns
    exact ⟨by rw [HU.out.1, HU.out.2]; rfl, hb⟩
end Go.Proofs.YtbpfbceagdikoaaDoor
