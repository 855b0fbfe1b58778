/- Walks of layer 1: Split, and the pieces of the reference. -/
import Derived.Test.YtbpfbceagdikoaaDoorW1
import Derived.Test.YtbpfbceagdikoaaDoorMem
namespace Go.Proofs.YtbpfbceagdikoaaDoor
open Go.RowKit
set_option linter.unusedVariables false

/-- a string value -/
def S (l : Bs) : Value := .string ⟨l.toArray⟩
theorem S_data (s : ByteArray) : S s.data.toList = .string s := rfl
theorem strInfo : (Tryd.prog.info? 9).map (fun i => (i.zero, i.size, i.bytes)) = some (some (.string ⟨#[]⟩), 1, 16) := by kernel_rfl

def SplitPost (w : World) (l : List Bs) (at' e' : Nat) (e : Ending) (w' : World) : Prop :=
  ∃ A c, e = .returned (.tuple #[.slice A l.length c, .int .i64 at', .int .i64 e']) ∧ l.length ≤ c ∧ RowAt w' A (l.map S) ∧ Below w.heap.size w w'

set_option maxHeartbeats 1000000 in
set_option maxRecDepth 100000 in
theorem split_any (s : ByteArray) (w : World) (hT : Tabs w) (hs : s.size ≤ 16384) :
    Calls Tryd.prog 12 #[.string s] w (SplitPost w (splitL s.data.toList) (splitAt s.data.toList) (splitE s.data.toList)) := by
  obtain ⟨i0, hi, hz0, hz1, hz2⟩ := info_parts strInfo
  have hs' : s.data.toList.length ≤ 16384 := by rw [← Lib.size_eq]; exact hs
  go_enter Tryd.func12, Tryd.ntmps12
  go_wp2_with fail
  go_loopw [2] (fun v wr => ∃ (pos : Nat) (done : List Bs), Own w.heap.size 9 v (done.map S) wr ∧ wr.heap[w.heap.size]? = some (.stringIter s pos) ∧ Below w.heap.size w wr ∧ pos ≤ s.size ∧ done.length ≤ pos ∧ Hid (pieces s.data.toList = done ++ pieces (s.data.toList.drop pos) ∧ (∀ p ∈ done, validL p = true) ∧ done.flatten.length = pos)) (fun _ wr => s.size - wr.iterPos w.heap.size)
  case atStart =>
    exact ⟨0, [], Own.nil _ _ _, by simpa using World.iter_heap w s 0, (Below.refl _ w).alloc (Nat.le_refl _) _, by omega, by simp, by simp [Hid]⟩
  case round =>
    obtain ⟨pos, done, hown, hit, hb, hp, hd, H⟩ := hrel
    have hsz : w.heap.size < wr.heap.size := (Array.getElem?_eq_some_iff.1 hit).1
    by_cases hlt : pos < s.size
    · have hnx : ∀ ty, (Instr.next (.pointer (some ⟨w.heap.size, 0, none⟩)) true ty).run Tryd.prog wr = _ := fun ty => Lib.run_next_any_at wr w.heap.size s pos ty hit hlt
      rw [dec_at s pos hlt] at hnx
      have hre : ¬ (s.extract pos s.size).size = 0 := by rw [Lib.size_eq, ext_data]; simp; omega
      have hpc := fun W h => piece_any (s.extract pos s.size) W h
      have hn1 := dec_bd (s.extract pos s.size) hre
      have hsE : (s.extract pos s.size).size = s.size - pos := by rw [Lib.size_eq, ext_data]; simp
      have hps := psz_dec (s.extract pos s.size) hre
      have hrf := dec_ff (s.extract pos s.size)
      rw [ext_data] at hpc hps hrf
      have hdt : (s.data.toList.drop pos).take (s.size - pos) = s.data.toList.drop pos := List.take_of_length_le (by simp)
      rw [hdt] at hpc hps hrf
      obtain ⟨r, hr⟩ : ∃ r, (Lib.decodeGo (s.extract pos s.size)).1 = r := ⟨_, rfl⟩
      obtain ⟨n, hn⟩ : ∃ n, (Lib.decodeGo (s.extract pos s.size)).2 = n := ⟨_, rfl⟩
      obtain ⟨k, hk⟩ : ∃ k, okL (s.data.toList.drop pos) = k := ⟨_, rfl⟩
      rw [hr, hn, hk] at hpc
      rw [hr, hn] at hnx
      rw [hn] at hn1 hps
      rw [hr, hk] at hrf
      have hbI := Lib.below_iterAt hb (k := w.heap.size) (Nat.le_refl _) s (pos + n)
      have hit2 := Lib.iterAt_heap wr w.heap.size s pos (pos + n) hit
      have hown2 := hown.iterAt hit (pos + n)
      have HK := Lib.hid hk
      have HP := Lib.hid hps
      clear hr hn hk hps hdt hre
      have hn2 : 1 ≤ n ∧ pos + n ≤ s.size := by omega
      clear hn1 hsE
      obtain ⟨hn2, hn3⟩ := hn2
      cases k
      · obtain rfl := hrf rfl
        go_wp2_with (first | (go_at_call 34; refine (hpc _ (hT.below hbI)).mono ?_; rintro e w1 ⟨rfl, hb1⟩))
        go_returns
        obtain ⟨e1, e2, e3⟩ := split_stray hs' HK.out H.out hlt
        exact ⟨none, 0, by rw [e1, e2, e3]; rfl, by rw [e1]; exact Nat.le_refl _, by rw [e1]; exact RowAt.nil _ _, bstep hbI hb1⟩
      · have hlen : (done.map S).length = done.length := by simp
        clear hrf
        have ml : (done.map S).length + 1 ≤ maxLen := by rw [hlen]; unfold maxLen; omega
        have mb : ((done.map S).length + 1) * 16 ≤ 140737488355328 := by rw [hlen]; omega
        clear hlen
        have HS : Hid (Value.string (s.extract pos (pos + n)) = S ((s.data.toList.drop pos).take n)) := by unfold Hid; rw [← S_data, ext_data, Nat.add_sub_cancel_left]
        have hzz : w.heap.size ≤ (wr.iterAt w.heap.size s (pos + n)).heap.size := hbI.size
        rcases (show r = 65533 ∨ ¬ r = 65533 from by omega) with rfl | hr3
        all_goals
          go_wp2_with (first | (go_at_call 34; refine (hpc _ (hT.below hbI)).mono ?_; rintro e w1 ⟨rfl, hb1⟩; have hit3 := (hb1.block _ (by rw [Lib.iterAt_size]; exact hsz)).trans hit2; have hbA := bstep hbI hb1; have hown3 := hown2.below hb1) | (at_builtin; refine wpList_app1 rfl (.tmp 34) (.tmp 41) 22 rfl w.heap.size i0 _ 16 Tryd.underlying22 hi hz0 hz1 hz2 rfl _ (done.map S) rfl hown3 1 rfl rfl ml mb hbA.size ?_; intro v' w2 hown4 hg hb2; have hit4 := hown3.iterGrown hit3 hg))
          go_roundw
          case rel => exact ⟨pos + n, done ++ [(s.data.toList.drop pos).take n], by rw [List.map_append]; rw [HS.out] at hown4; exact hown4, hit4, hbA.trans hb2, by omega, by simp; omega, split_more HP.out HK.out hlt hn3 H.out⟩
          case measure => simp only [World.iterPos, hit4, hit]; omega
    · have hnx : ∀ ty, (Instr.next (.pointer (some ⟨w.heap.size, 0, none⟩)) true ty).run Tryd.prog wr = _ := fun ty => Lib.run_next_end_at wr w.heap.size s pos ty hit hlt
      go_wp2_with fail
      go_returns
      obtain ⟨e1, e2, e3⟩ := split_all hs' H.out (by rw [← Lib.size_eq]; omega)
      obtain ⟨A, c, hv, hc, hr⟩ := hown.row.to (n := done.length) (by simp)
      exact ⟨A, c, by rw [e1, e2, e3, ← hv]; rfl, by rw [e1]; exact hc, by rw [e1]; exact hr, hb⟩

set_option maxHeartbeats 1000000 in
set_option maxRecDepth 100000 in
theorem split_long (s : ByteArray) (w : World) (hs : 16384 < s.size) :
    Calls Tryd.prog 12 #[.string s] w (SplitPost w (splitL s.data.toList) (splitAt s.data.toList) (splitE s.data.toList)) := by
  have hl : 16384 < s.data.toList.length := by rw [← Lib.size_eq]; exact hs
  have e : splitR s.data.toList = ([], 0, 2) := by unfold splitR; rw [if_pos hl]
  have HE := Lib.hid e
  clear e hl
  go_enter Tryd.func12, Tryd.ntmps12
  go_wp2_with fail
  go_returns
  exact ⟨none, 0, by rw [splitAt, splitE, splitL, HE.out]; rfl, by rw [splitL, HE.out]; exact Nat.le_refl _, by rw [splitL, HE.out]; exact RowAt.nil _ _, Below.refl _ _⟩
theorem split_every (s : ByteArray) (w : World) (hT : Tabs w) :
    Calls Tryd.prog 12 #[.string s] w (SplitPost w (splitL s.data.toList) (splitAt s.data.toList) (splitE s.data.toList)) := by
  rcases Nat.lt_or_ge 16384 s.size with h | h
  · exact split_long s w h
  · exact split_any s w hT h
end Go.Proofs.YtbpfbceagdikoaaDoor
