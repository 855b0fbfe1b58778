/- Walks: written. -/
import Derived.Test.YtfgmjdhoeilhcaaGreatDoorQg
namespace Go.Proofs.YtfgmjdhoeilhcaaGreatDoor
open Go.RowKit
set_option linter.unusedVariables false

theorem mkT_long {neg : Bool} {m n : Nat} (hn : n ≠ 0) (h : redLong m n = true) : mkT neg m n = ([], 2) := by
  rw [mkT_eq neg m hn, if_pos]
  unfold redLong at h
  simpa using h
theorem mkT_short {neg : Bool} {m n : Nat} (hn : n ≠ 0) (h : ¬ redLong m n = true) : mkT neg m n = (numT (neg && decide (m ≠ 0)) (decT (m / Nat.gcd m n)) (decT (n / Nat.gcd m n)), 0) := by
  rw [mkT_eq neg m hn, if_neg]
  · unfold numT
    congr 1
    congr 1
    · by_cases h1 : neg = true <;> by_cases h2 : m = 0 <;> simp [h1, h2]
    · congr 1
      by_cases h1 : n / Nat.gcd m n = 1
      · rw [if_pos h1, h1, if_pos decT_one]
      · rw [if_neg h1, if_neg]
        intro e
        exact h1 (by rw [← decV_decT (n / Nat.gcd m n), e]; rfl)
  · unfold redLong at h
    simpa using h
theorem short_size {m n : Nat} (h : ¬ redLong m n = true) : (decT (m / Nat.gcd m n)).length ≤ 400 ∧ (decT (n / Nat.gcd m n)).length ≤ 400 := by
  unfold redLong at h
  simp at h
  omega
/-- one cell that may be written -/
structure Cel1 (w : World) (b : Nat) (x : Value) : Prop where
  lt : b < w.heap.size
  c0 : w.cell? ⟨b, 0, none⟩ = some x
  f0 : w.frozen? ⟨b, 0, none⟩ = false
theorem Cel1.new (w : World) (x : Value) (t : TypeId) : Cel1 (w.alloc (.cells #[x] t)) w.heap.size x := ⟨by simp, at3 w _ t 0 x rfl, fz3 w _ t 0⟩
theorem Cel1.below {w w' : World} {b : Nat} {x : Value} (h : Cel1 w b x) (hb : Below w.heap.size w w') : Cel1 w' b x :=
  ⟨Nat.lt_of_lt_of_le h.lt hb.size, (hb.cell (p := ⟨b, 0, none⟩) h.lt).trans h.c0, frz (hb.block b h.lt) 0 h.f0⟩

set_option maxHeartbeats 2000000 in
set_option maxRecDepth 100000 in
theorem written_compute (P1 P2 P3 : Value) (neg : Bool) (m n : Nat) (w : World) (hn : n ≠ 0) (hf : ∀ W, Below w.heap.size w W → Calls Tryz.prog 90 #[P1, P2, P3] W (RedPost neg m n W)) :
    Calls Tryz.prog 38 #[.func (.func 90) #[] #[P1, P2, P3]] w (TxtPost w (mkT neg m n)) := by
  have hmf : ∀ (fn : Fn) (first cap : Array Value) (w : World), (Instr.makeFunc fn first cap).run Tryz.prog w = .ok (.func fn first cap) w := fun _ _ _ _ => rfl
  have hb0 : Below w.heap.size w ((w.alloc (.cells #[.string ⟨#[]⟩] 9)).alloc (.cells #[.int .i64 0] 27)) := ((Below.refl _ w).alloc (Nat.le_refl _) _).alloc (by simp) _
  have d1 := (Cel1.new w (.string ⟨#[]⟩) 9).below ((Below.refl _ _).alloc (Nat.le_refl _) (.cells #[.int .i64 0] 27))
  have d2 := Cel1.new (w.alloc (.cells #[.string ⟨#[]⟩] 9)) (.int .i64 0) 27
  have e1 : (w.alloc (.cells #[.string ⟨#[]⟩] 9)).heap.size = w.heap.size + 1 := by simp
  rw [e1] at d2
  clear e1
  have hcall := hf _ hb0
  unfold RedPost redV longP at hcall
  clear hf
  by_cases hl : redLong m n = true
  · have HK : Hid (mkT neg m n = ([], 2)) := mkT_long hn hl
    simp only [if_pos hl] at hcall
    clear hl hn
    go_enter_defers Tryz.func38, Tryz.ntmps38
    go_wp2_with fail
    refine hcall.mono ?_
    rintro e w2 ⟨rfl, b2⟩
    have k1 := d1.below b2
    have k2 := d2.below b2
    have hB2 := bstep hb0 b2
    go_wp2_with fail
    have hw : Below w2.heap.size w2 (w2.alloc (.cells #[] 67)) := (Below.refl _ _).alloc (Nat.le_refl _) _
    have j1 := k1.below hw
    have j2 := k2.below hw
    refine leaves_cons (f := 63) (args := #[.pointer (some ⟨w.heap.size, 0, none⟩), .pointer (some ⟨w.heap.size + 1, 0, none⟩)]) (by simp) (by simp [go_sem]) ?_
    refine (catch_long w.heap.size _ _ [] w2 k1.c0 k2.c0 k1.f0 k2.f0).mono ?_
    rintro e u' w'' ⟨rfl, rfl, rfl⟩
    refine ⟨.tuple #[.string ⟨#[]⟩, .int .i64 2], by simp [results, Tryz.results38, j1.c0, j2.c0, go_sem]; try rfl, ?_⟩
    unfold TxtPost
    rw [HK.out]
    exact ⟨rfl, (((hB2.alloc hB2.size _).setCell (p := ⟨w.heap.size, 0, none⟩) (Nat.le_refl _) _).setCell (p := ⟨w.heap.size + 1, 0, none⟩) (Nat.le_add_right _ _) _)⟩
  · have HK : Hid (mkT neg m n = (numT (neg && decide (m ≠ 0)) (decT (m / Nat.gcd m n)) (decT (n / Nat.gcd m n)), 0)) := mkT_short hn hl
    obtain ⟨s1, s2⟩ := short_size hl
    simp only [if_neg hl] at hcall
    obtain ⟨F1, hF1⟩ : ∃ F : ByteArray, (⟨(decT (m / Nat.gcd m n)).toArray⟩ : ByteArray) = F := ⟨_, rfl⟩
    obtain ⟨F2, hF2⟩ : ∃ F : ByteArray, (⟨(decT (n / Nat.gcd m n)).toArray⟩ : ByteArray) = F := ⟨_, rfl⟩
    have e1 : decT (m / Nat.gcd m n) = F1.data.toList := by rw [← hF1]
    have e2 : decT (n / Nat.gcd m n) = F2.data.toList := by rw [← hF2]
    rw [hF1, hF2] at hcall
    rw [e1, e2] at HK
    rw [e1, ← Lib.size_eq] at s1
    rw [e2, ← Lib.size_eq] at s2
    generalize (neg && decide (m ≠ 0)) = nb at *
    have htx := fun W => ntext_any nb F1 F2 W (by omega) (by omega)
    obtain ⟨T, hT⟩ : ∃ T : ByteArray, (⟨(numT nb F1.data.toList F2.data.toList).toArray⟩ : ByteArray) = T := ⟨_, rfl⟩
    rw [hT] at htx
    have HT := Lib.hid hT
    clear hl hn hF1 hF2 e1 e2 hT
    go_enter_defers Tryz.func38, Tryz.ntmps38
    go_wp2_with fail
    refine hcall.mono ?_
    rintro e w2 ⟨rfl, b2⟩
    have k1 := d1.below b2
    have k2 := d2.below b2
    have hB2 := bstep hb0 b2
    go_wp2_with fail
    refine (htx _).mono ?_
    rintro e w3 ⟨rfl, b3⟩
    obtain ⟨l1, c1, f1⟩ := k1.below b3
    obtain ⟨l2, c2, f2⟩ := k2.below b3
    have hB3 := bstep hB2 b3
    go_wp2_with fail
    have g1 : ((w3.setCell ⟨w.heap.size, 0, none⟩ (.string T)).setCell ⟨w.heap.size + 1, 0, none⟩ (.int .i64 0)).cell? ⟨w.heap.size, 0, none⟩ = some (.string T) := by simp [c1, go_sem]
    have g2 : ((w3.setCell ⟨w.heap.size, 0, none⟩ (.string T)).setCell ⟨w.heap.size + 1, 0, none⟩ (.int .i64 0)).cell? ⟨w.heap.size + 1, 0, none⟩ = some (.int .i64 0) := by simp [c2, go_sem]
    have hBW : Below w.heap.size w ((w3.setCell ⟨w.heap.size, 0, none⟩ (.string T)).setCell ⟨w.heap.size + 1, 0, none⟩ (.int .i64 0)) := (hB3.setCell (p := ⟨w.heap.size, 0, none⟩) (Nat.le_refl _) _).setCell (p := ⟨w.heap.size + 1, 0, none⟩) (Nat.le_add_right _ _) _
    generalize (w3.setCell ⟨w.heap.size, 0, none⟩ (.string T)).setCell ⟨w.heap.size + 1, 0, none⟩ (.int .i64 0) = W3 at *
    refine leaves_cons (f := 63) (args := #[.pointer (some ⟨w.heap.size, 0, none⟩), .pointer (some ⟨w.heap.size + 1, 0, none⟩)]) (by simp) (by simp [go_sem]) ?_
    refine (catch_idle w.heap.size W3).mono ?_
    rintro e u' w'' ⟨rfl, rfl, rfl⟩
    have hw : Below W3.heap.size W3 (W3.alloc (.cells #[] 67)) := (Below.refl _ _).alloc (Nat.le_refl _) _
    have j1 := (hw.cell (cell_lt g1)).trans g1
    have j2 := (hw.cell (cell_lt g2)).trans g2
    refine ⟨.tuple #[.string T, .int .i64 0], by simp [results, Tryz.results38, j1, j2, go_sem]; try rfl, ?_⟩
    unfold TxtPost
    rw [HK.out]
    show _ = Ending.returned (.tuple #[.string ⟨(numT nb F1.data.toList F2.data.toList).toArray⟩, _]) ∧ _
    rw [HT.out]
    exact ⟨rfl, hBW.alloc hBW.size _⟩
set_option maxHeartbeats 2000000 in
set_option maxRecDepth 100000 in
theorem written_make (P1 P2 P3 : Value) (neg : Bool) (m n : Nat) (w : World) (hn : n ≠ 0) (hf : ∀ W, Below w.heap.size w W → Calls Tryz.prog 39 #[P1, P2, P3] W (RedPost neg m n W)) :
    Calls Tryz.prog 38 #[.func (.func 39) #[] #[P1, P2, P3]] w (TxtPost w (mkT neg m n)) := by
  have hmf : ∀ (fn : Fn) (first cap : Array Value) (w : World), (Instr.makeFunc fn first cap).run Tryz.prog w = .ok (.func fn first cap) w := fun _ _ _ _ => rfl
  have hb0 : Below w.heap.size w ((w.alloc (.cells #[.string ⟨#[]⟩] 9)).alloc (.cells #[.int .i64 0] 27)) := ((Below.refl _ w).alloc (Nat.le_refl _) _).alloc (by simp) _
  have d1 := (Cel1.new w (.string ⟨#[]⟩) 9).below ((Below.refl _ _).alloc (Nat.le_refl _) (.cells #[.int .i64 0] 27))
  have d2 := Cel1.new (w.alloc (.cells #[.string ⟨#[]⟩] 9)) (.int .i64 0) 27
  have e1 : (w.alloc (.cells #[.string ⟨#[]⟩] 9)).heap.size = w.heap.size + 1 := by simp
  rw [e1] at d2
  clear e1
  have hcall := hf _ hb0
  unfold RedPost redV longP at hcall
  clear hf
  by_cases hl : redLong m n = true
  · have HK : Hid (mkT neg m n = ([], 2)) := mkT_long hn hl
    simp only [if_pos hl] at hcall
    clear hl hn
    go_enter_defers Tryz.func38, Tryz.ntmps38
    go_wp2_with fail
    refine hcall.mono ?_
    rintro e w2 ⟨rfl, b2⟩
    have k1 := d1.below b2
    have k2 := d2.below b2
    have hB2 := bstep hb0 b2
    go_wp2_with fail
    have hw : Below w2.heap.size w2 (w2.alloc (.cells #[] 67)) := (Below.refl _ _).alloc (Nat.le_refl _) _
    have j1 := k1.below hw
    have j2 := k2.below hw
    refine leaves_cons (f := 63) (args := #[.pointer (some ⟨w.heap.size, 0, none⟩), .pointer (some ⟨w.heap.size + 1, 0, none⟩)]) (by simp) (by simp [go_sem]) ?_
    refine (catch_long w.heap.size _ _ [] w2 k1.c0 k2.c0 k1.f0 k2.f0).mono ?_
    rintro e u' w'' ⟨rfl, rfl, rfl⟩
    refine ⟨.tuple #[.string ⟨#[]⟩, .int .i64 2], by simp [results, Tryz.results38, j1.c0, j2.c0, go_sem]; try rfl, ?_⟩
    unfold TxtPost
    rw [HK.out]
    exact ⟨rfl, (((hB2.alloc hB2.size _).setCell (p := ⟨w.heap.size, 0, none⟩) (Nat.le_refl _) _).setCell (p := ⟨w.heap.size + 1, 0, none⟩) (Nat.le_add_right _ _) _)⟩
  · have HK : Hid (mkT neg m n = (numT (neg && decide (m ≠ 0)) (decT (m / Nat.gcd m n)) (decT (n / Nat.gcd m n)), 0)) := mkT_short hn hl
    obtain ⟨s1, s2⟩ := short_size hl
    simp only [if_neg hl] at hcall
    obtain ⟨F1, hF1⟩ : ∃ F : ByteArray, (⟨(decT (m / Nat.gcd m n)).toArray⟩ : ByteArray) = F := ⟨_, rfl⟩
    obtain ⟨F2, hF2⟩ : ∃ F : ByteArray, (⟨(decT (n / Nat.gcd m n)).toArray⟩ : ByteArray) = F := ⟨_, rfl⟩
    have e1 : decT (m / Nat.gcd m n) = F1.data.toList := by rw [← hF1]
    have e2 : decT (n / Nat.gcd m n) = F2.data.toList := by rw [← hF2]
    rw [hF1, hF2] at hcall
    rw [e1, e2] at HK
    rw [e1, ← Lib.size_eq] at s1
    rw [e2, ← Lib.size_eq] at s2
    generalize (neg && decide (m ≠ 0)) = nb at *
    have htx := fun W => ntext_any nb F1 F2 W (by omega) (by omega)
    obtain ⟨T, hT⟩ : ∃ T : ByteArray, (⟨(numT nb F1.data.toList F2.data.toList).toArray⟩ : ByteArray) = T := ⟨_, rfl⟩
    rw [hT] at htx
    have HT := Lib.hid hT
    clear hl hn hF1 hF2 e1 e2 hT
    go_enter_defers Tryz.func38, Tryz.ntmps38
    go_wp2_with fail
    refine hcall.mono ?_
    rintro e w2 ⟨rfl, b2⟩
    have k1 := d1.below b2
    have k2 := d2.below b2
    have hB2 := bstep hb0 b2
    go_wp2_with fail
    refine (htx _).mono ?_
    rintro e w3 ⟨rfl, b3⟩
    obtain ⟨l1, c1, f1⟩ := k1.below b3
    obtain ⟨l2, c2, f2⟩ := k2.below b3
    have hB3 := bstep hB2 b3
    go_wp2_with fail
    have g1 : ((w3.setCell ⟨w.heap.size, 0, none⟩ (.string T)).setCell ⟨w.heap.size + 1, 0, none⟩ (.int .i64 0)).cell? ⟨w.heap.size, 0, none⟩ = some (.string T) := by simp [c1, go_sem]
    have g2 : ((w3.setCell ⟨w.heap.size, 0, none⟩ (.string T)).setCell ⟨w.heap.size + 1, 0, none⟩ (.int .i64 0)).cell? ⟨w.heap.size + 1, 0, none⟩ = some (.int .i64 0) := by simp [c2, go_sem]
    have hBW : Below w.heap.size w ((w3.setCell ⟨w.heap.size, 0, none⟩ (.string T)).setCell ⟨w.heap.size + 1, 0, none⟩ (.int .i64 0)) := (hB3.setCell (p := ⟨w.heap.size, 0, none⟩) (Nat.le_refl _) _).setCell (p := ⟨w.heap.size + 1, 0, none⟩) (Nat.le_add_right _ _) _
    generalize (w3.setCell ⟨w.heap.size, 0, none⟩ (.string T)).setCell ⟨w.heap.size + 1, 0, none⟩ (.int .i64 0) = W3 at *
    refine leaves_cons (f := 63) (args := #[.pointer (some ⟨w.heap.size, 0, none⟩), .pointer (some ⟨w.heap.size + 1, 0, none⟩)]) (by simp) (by simp [go_sem]) ?_
    refine (catch_idle w.heap.size W3).mono ?_
    rintro e u' w'' ⟨rfl, rfl, rfl⟩
    have hw : Below W3.heap.size W3 (W3.alloc (.cells #[] 67)) := (Below.refl _ _).alloc (Nat.le_refl _) _
    have j1 := (hw.cell (cell_lt g1)).trans g1
    have j2 := (hw.cell (cell_lt g2)).trans g2
    refine ⟨.tuple #[.string T, .int .i64 0], by simp [results, Tryz.results38, j1, j2, go_sem]; try rfl, ?_⟩
    unfold TxtPost
    rw [HK.out]
    show _ = Ending.returned (.tuple #[.string ⟨(numT nb F1.data.toList F2.data.toList).toArray⟩, _]) ∧ _
    rw [HT.out]
    exact ⟨rfl, hBW.alloc hBW.size _⟩
end Go.Proofs.YtfgmjdhoeilhcaaGreatDoor
