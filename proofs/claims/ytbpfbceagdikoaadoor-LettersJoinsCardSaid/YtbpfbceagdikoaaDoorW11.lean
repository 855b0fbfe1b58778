/- Walks of layer 1: Unquote. -/
import Derived.Test.YtbpfbceagdikoaaDoorW10
import Derived.Test.YtbpfbceagdikoaaDoorW2
import Derived.Test.YtbpfbceagdikoaaDoorPlain2
namespace Go.Proofs.YtbpfbceagdikoaaDoor
open Go.RowKit
set_option linter.unusedVariables false

set_option maxHeartbeats 2000000 in
set_option maxRecDepth 100000 in
theorem unquote_any (s : ByteArray) (w : World) (hT : Tabs w) (hs : s.size ≤ 1000000000) :
    Calls Tryd.prog 15 #[.string s] w fun e w' => e = .returned (.tuple #[.string ⟨(unqS (unquoteL s.data.toList)).toArray⟩, .int .i64 (unqE (unquoteL s.data.toList))]) ∧ Below w.heap.size w w' := by
  by_cases h0 : s.data.toList = [37, 48]
  · have HU : Hid (unqS (unquoteL s.data.toList) = [] ∧ unqE (unquoteL s.data.toList) = 0) := by unfold Hid unquoteL; rw [if_pos h0]; exact ⟨rfl, rfl⟩
    have hq : (s.toList == [37, 48]) = true := by rw [Lib.toList_data, h0]; rfl
    clear h0
    go_enter Tryd.func15, Tryd.ntmps15
    go_wp2_with fail
    go_returns
    exact ⟨by rw [HU.out.1, HU.out.2]; rfl, Below.refl _ _⟩
  · have HU : Hid (unquoteL s.data.toList = match readF s.data.toList with | some n => if quoteL n = s.data.toList then some n else none | none => none) := by unfold Hid unquoteL; rw [if_neg h0]; rfl
    have hq : (s.toList == [37, 48]) = false := by rw [Lib.toList_data]; simpa using h0
    clear h0
    go_enter Tryd.func15, Tryd.ntmps15
    go_wp2_with fail
    go_loopw [2, 4] (fun v u wr => ∃ (nm s' : ByteArray), v = .string nm ∧ u = .string s' ∧ Below w.heap.size w wr ∧ nm.size + s'.size ≤ s.size ∧ Hid (readF s.data.toList = (readF s'.data.toList).map (nm.data.toList ++ ·))) (fun _ u _ => strLen u)
    case atStart =>
      exact ⟨⟨#[]⟩, s, rfl, rfl, Below.refl _ _, by show 0 + s.size ≤ s.size; omega, by unfold Hid; cases readF s.data.toList <;> simp⟩
    case round =>
      obtain ⟨nm, s', rfl, rfl, hb, hl, H⟩ := hrel
      by_cases he : s'.size = 0
      · have hemp := isEmpty_of he
        have hz : readF s'.data.toList = some [] := by rw [data_nil he]; rfl
        have HR : Hid (readF s.data.toList = some nm.data.toList) := by unfold Hid; rw [H.out, hz]; simp
        have hqt := quote_any nm wr (hT.below hb) (by omega)
        obtain ⟨Q, hQ⟩ : ∃ Q, quoteL nm.data.toList = Q := ⟨_, rfl⟩
        rw [hQ] at hqt
        have HQ := Lib.hid hQ
        clear hQ hz H
        go_wp2_with (go_at_call 14; refine hqt.mono ?_; rintro e w1 ⟨rfl, hb1⟩; have hbA := bstep hb hb1)
        · go_returns
          have hx : ¬ Q = s.data.toList := by simpa [Lib.toList_data] using ‹(!Q == s.toList) = true›
          have HN : unquoteL s.data.toList = none := by rw [HU.out, HR.out]; simp only []; rw [HQ.out, if_neg hx]
          exact ⟨by rw [HN]; rfl, hbA⟩
        · go_returns
          have hx : Q = s.data.toList := by simpa [Lib.toList_data] using ‹(!Q == s.toList) = false›
          have HN : unquoteL s.data.toList = some nm.data.toList := by rw [HU.out, HR.out]; simp only []; rw [HQ.out, if_pos hx]
          exact ⟨by rw [HN]; rfl, hbA⟩
      · have hemp := not_isEmpty_of he
        have hun := unit_any s' wr (hT.below hb) (by omega) (by omega)
        have hne := data_ne he
        have hst := readF_step s'.data.toList hne
        obtain ⟨hub, huc⟩ := unitT_bd s'.data.toList hne
        rw [← Lib.size_eq] at hub
        obtain ⟨u1, hu1⟩ : ∃ u1, (unitT s'.data.toList).1 = u1 := ⟨_, rfl⟩
        obtain ⟨u2, hu2⟩ : ∃ u2, (unitT s'.data.toList).2 = u2 := ⟨_, rfl⟩
        rw [hu1, hu2] at hun hst huc
        rw [hu2] at hub
        clear hu1 hu2
        have husz : (⟨u1.toArray⟩ : ByteArray).size = u1.length := by rw [Lib.size_eq]
        have husz2 : (⟨u1.toArray⟩ : ByteArray).size ≤ u2 := by omega
        clear husz huc
        have Hst := Lib.hid hst
        clear hst
        by_cases hu0 : u2 = 0
        · subst hu0
          have HN : Hid (unquoteL s.data.toList = none) := by
            have h1 := Hst.out
            rw [if_pos rfl] at h1
            have h2 := H.out
            rw [h1] at h2
            rw [Hid, HU.out, h2]; rfl
          go_wp2_with (go_at_call 42; refine hun.mono ?_; rintro e w1 ⟨rfl, hb1⟩; have hbA := bstep hb hb1)
          go_returns
          exact ⟨by rw [HN.out]; rfl, hbA⟩
        · have hup : 1 ≤ u2 := by omega
          have hrs : (s'.extract u2 s'.size).size = s'.size - u2 := by rw [Lib.size_eq, ext_data]; simp
          have hrd : (s'.extract u2 s'.size).data.toList = s'.data.toList.drop u2 := by
            rw [ext_data, List.take_of_length_le]
            rw [List.length_drop, ← Lib.size_eq]; exact Nat.le_refl _
          have Hrs := Lib.hid hrs
          have Hrd := Lib.hid hrd
          have hcat := size_cat nm ⟨u1.toArray⟩
          have hcat2 : (nm ++ ⟨u1.toArray⟩).size + (s'.extract u2 s'.size).size ≤ s.size := by omega
          have Hcat := Lib.hid hcat2
          have Hu0 := Lib.hid hu0
          clear hrs hrd hcat hcat2 hu0
          go_wp2_with (go_at_call 42; refine hun.mono ?_; rintro e w1 ⟨rfl, hb1⟩; have hbA := bstep hb hb1)
          go_roundw
          case rel => exact ⟨nm ++ ⟨u1.toArray⟩, s'.extract u2 s'.size, rfl, rfl, hbA, Hcat.out, by unfold Hid; rw [H.out, Hst.out, if_neg Hu0.out, Hrd.out, Joins.data_append]; cases readF (s'.data.toList.drop u2) <;> simp⟩
          case measure => simp only [strLen]; rw [Hrs.out]; omega
end Go.Proofs.YtbpfbceagdikoaaDoor
