/- Walks: reduce. -/
import Derived.Test.YtfgmjdhoeilhcaaGreatDoorQb
namespace Go.Proofs.YtfgmjdhoeilhcaaGreatDoor
open Go.RowKit
set_option linter.unusedVariables false

/-- a fraction in lowest terms, as rat holds it -/
def redV (neg : Bool) (m n : Nat) : Value := .agg #[.bool (neg && decide (m ≠ 0)), .string ⟨(decT (m / Nat.gcd m n)).toArray⟩, .string ⟨(decT (n / Nat.gcd m n)).toArray⟩]
/-- is it too long? -/
def redLong (m n : Nat) : Bool := decide (400 < (decT (m / Nat.gcd m n)).length) || decide (400 < (decT (n / Nat.gcd m n)).length)
/-- rat's panic -/
def longP : Ending := .panicked [{ v := .iface 67 (.agg #[]), recovered := false }]
def RedPost (neg : Bool) (m n : Nat) (w : World) (e : Ending) (w' : World) : Prop := e = (if redLong m n = true then longP else .returned (redV neg m n)) ∧ Below w.heap.size w w'
/-- the cells of a number that is still nothing -/
def zero3 : Array Value := #[.bool false, .string ⟨#[]⟩, .string ⟨#[]⟩]
theorem at3 (w : World) (A : Array Value) (t : TypeId) (o : Nat) (v : Value) (h : A[o]? = some v) : (w.alloc (.cells A t)).cell? ⟨w.heap.size, o, none⟩ = some v := by
  rw [cell_of_row (w.alloc _) w.heap.size o A t (0, 0) (heap_alloc_new w _)]
  exact h
theorem fz3 (w : World) (A : Array Value) (t : TypeId) (o : Nat) : (w.alloc (.cells A t)).frozen? ⟨w.heap.size, o, none⟩ = false := by
  unfold World.frozen?
  rw [heap_alloc_new]
  simp
/-- a block with three cells that may be written -/
structure Cel3 (w : World) (b : Nat) (x y z : Value) : Prop where
  lt : b < w.heap.size
  c0 : w.cell? ⟨b, 0, none⟩ = some x
  c1 : w.cell? ⟨b, 1, none⟩ = some y
  c2 : w.cell? ⟨b, 2, none⟩ = some z
  f0 : w.frozen? ⟨b, 0, none⟩ = false
  f1 : w.frozen? ⟨b, 1, none⟩ = false
  f2 : w.frozen? ⟨b, 2, none⟩ = false
theorem Cel3.new (w : World) (x y z : Value) (t : TypeId) : Cel3 (w.alloc (.cells #[x, y, z] t)) w.heap.size x y z :=
  ⟨by simp, at3 w _ t 0 x rfl, at3 w _ t 1 y rfl, at3 w _ t 2 z rfl, fz3 w _ t 0, fz3 w _ t 1, fz3 w _ t 2⟩
theorem Cel3.below {w w' : World} {b : Nat} {x y z : Value} (h : Cel3 w b x y z) (hb : Below w.heap.size w w') : Cel3 w' b x y z :=
  ⟨Nat.lt_of_lt_of_le h.lt hb.size, (hb.cell (p := ⟨b, 0, none⟩) h.lt).trans h.c0, (hb.cell (p := ⟨b, 1, none⟩) h.lt).trans h.c1, (hb.cell (p := ⟨b, 2, none⟩) h.lt).trans h.c2, frz (hb.block b h.lt) 0 h.f0, frz (hb.block b h.lt) 1 h.f1, frz (hb.block b h.lt) 2 h.f2⟩

theorem Cel3.set {w : World} {b : Nat} {x y z : Value} (h : Cel3 w b x y z) (x' y' z' : Value) : Cel3 (((w.setCell ⟨b, 0, none⟩ x').setCell ⟨b, 1, none⟩ y').setCell ⟨b, 2, none⟩ z') b x' y' z' :=
  ⟨by simpa using h.lt, by simp [h.c0, go_sem], by simp [h.c1, go_sem], by simp [h.c2, go_sem], by simp [h.f0, go_sem], by simp [h.f1, go_sem], by simp [h.f2, go_sem]⟩
set_option maxHeartbeats 4000000 in
set_option maxRecDepth 100000 in
theorem reduce_any (neg : Bool) (a b : ByteArray) (m n : Nat) (w : World) (hT : Tabs w) (ha : a.data.toList = decT m) (hb : b.data.toList = decT n) (sa : a.size ≤ 1000) (sb : b.size ≤ 1000) (hn : n ≠ 0) :
    Calls Tryz.prog 40 #[.bool neg, .string a, .string b] w (RedPost neg m n w) := by
  have hg0 : Nat.gcd m n ≠ 0 := Nat.ne_of_gt (Nat.gcd_pos_of_pos_right _ (Nat.pos_of_ne_zero hn))
  have hgn : Nat.gcd m n ≤ n := Nat.gcd_le_right _ (Nat.pos_of_ne_zero hn)
  have la : a.data.toList.length ≤ 1000 := by rw [← Lib.size_eq]; exact sa
  have lb : b.data.toList.length ≤ 1000 := by rw [← Lib.size_eq]; exact sb
  have hgc := fun W hT => ngcd_any a b W hT (by omega) (by omega)
  rw [natGcd_dec ha hb la lb] at hgc
  unfold TxtPost at hgc
  obtain ⟨G, hG⟩ : ∃ G : ByteArray, (⟨(decT (Nat.gcd m n)).toArray⟩ : ByteArray) = G := ⟨_, rfl⟩
  have hGd : G.data.toList = decT (Nat.gcd m n) := by rw [← hG]
  have sG : G.size ≤ 1000 := by
    rw [Lib.size_eq, hGd]
    refine Nat.le_trans (decT_mono hgn) ?_
    rw [← hb]; exact lb
  simp only [hG] at hgc
  have hq1 := fun W hT => quot_any a G m (Nat.gcd m n) W hT ha hGd sa sG hg0
  have hq2 := fun W hT => quot_any b G n (Nat.gcd m n) W hT hb hGd sb sG hg0
  have HP : Hid (RedPost neg m n w = fun e w' => e = (if (decide (400 < (decT (m / Nat.gcd m n)).length) || decide (400 < (decT (n / Nat.gcd m n)).length)) = true then longP else .returned (.agg #[.bool (neg && decide (m ≠ 0)), .string ⟨(decT (m / Nat.gcd m n)).toArray⟩, .string ⟨(decT (n / Nat.gcd m n)).toArray⟩])) ∧ Below w.heap.size w w') := rfl
  have hm := fun W => must_ok G W
  have h48 := str_is48 ha
  obtain ⟨F1, hF1⟩ : ∃ F : ByteArray, (⟨(decT (m / Nat.gcd m n)).toArray⟩ : ByteArray) = F := ⟨_, rfl⟩
  obtain ⟨F2, hF2⟩ : ∃ F : ByteArray, (⟨(decT (n / Nat.gcd m n)).toArray⟩ : ByteArray) = F := ⟨_, rfl⟩
  have l1 : (decT (m / Nat.gcd m n)).length = F1.size := by rw [← hF1, Lib.size_eq]
  have l2 : (decT (n / Nat.gcd m n)).length = F2.size := by rw [← hF2, Lib.size_eq]
  rw [l1, l2, hF1, hF2] at HP
  simp only [hF1] at hq1
  simp only [hF2] at hq2
  clear hG hGd sG hF1 hF2 l1 l2 la lb hg0 hgn ha hb hn
  have hb0 : Below w.heap.size w (w.alloc (.cells #[.bool false, .string ⟨#[]⟩, .string ⟨#[]⟩] 43)) := (Below.refl _ w).alloc (Nat.le_refl _) _
  have hC := Cel3.new w (.bool false) (.string ⟨#[]⟩) (.string ⟨#[]⟩) 43
  have hT0 := hT.below hb0
  obtain ⟨nb, hnb⟩ : ∃ nb, (neg && decide (m ≠ 0)) = nb := ⟨_, rfl⟩
  rw [hnb] at HP
  cases neg with
  | false =>
    obtain rfl : nb = false := by rw [← hnb]; rfl
    clear hnb h48
    rcases Nat.lt_or_ge 400 F1.size with hl1 | hl1
    · have k1 : (400 : Int) < (F1.size : Int) := by omega
      rw [decide_eq_true hl1] at HP
      clear hl1
      go_enter Tryz.func40, Tryz.ntmps40
      go_wp2_with (first
        | (go_at_call 62; refine (hgc _ hT0).mono ?_; rintro e w1 ⟨rfl, b1⟩; have hA1 := bstep hb0 b1; have hT1 := hT.below hA1; have hC1 := hC.below b1)
        | (go_at_call 51; refine (hm _).mono ?_; rintro e w2 ⟨rfl, rfl⟩)
        | (go_at_call_of 65 (Value.string a); refine (hq1 _ hT1).mono ?_; rintro e w2 ⟨rfl, b2⟩; have hA2 := bstep hA1 b2; have hT2 := hT.below hA2; have hC2 := hC1.below b2))
      refine (hq2 _ hT2).mono ?_
      rintro e w3 ⟨rfl, b3⟩
      have hA3 := bstep hA2 b3
      have hC3 := hC2.below b3
      obtain ⟨hl3, c0, c1, c2, f0, f1, f2⟩ := id hC3
      have hne : ¬ w3.heap.size = w.heap.size := by omega
      have hne2 : ¬ w.heap.size = w3.heap.size := by omega
      go_wp2_with fail
      refine ⟨rfl, ?_⟩
      rw [HP.out]
      exact ⟨rfl, hA3.alloc hA3.size _⟩
    · have k1 : decide ((400 : Int) < (F1.size : Int)) = false := decide_eq_false (by omega)
      have k1' : (F1.size : Int) ≤ 400 := by omega
      rw [decide_eq_false (by omega : ¬ 400 < F1.size)] at HP
      clear hl1
      rcases Nat.lt_or_ge 400 F2.size with hl2 | hl2
      · have k2 : (400 : Int) < (F2.size : Int) := by omega
        rw [decide_eq_true hl2] at HP
        clear hl2
        go_enter Tryz.func40, Tryz.ntmps40
        go_wp2_with (first
          | (go_at_call 62; refine (hgc _ hT0).mono ?_; rintro e w1 ⟨rfl, b1⟩; have hA1 := bstep hb0 b1; have hT1 := hT.below hA1; have hC1 := hC.below b1)
          | (go_at_call 51; refine (hm _).mono ?_; rintro e w2 ⟨rfl, rfl⟩)
          | (go_at_call_of 65 (Value.string a); refine (hq1 _ hT1).mono ?_; rintro e w2 ⟨rfl, b2⟩; have hA2 := bstep hA1 b2; have hT2 := hT.below hA2; have hC2 := hC1.below b2))
        refine (hq2 _ hT2).mono ?_
        rintro e w3 ⟨rfl, b3⟩
        have hA3 := bstep hA2 b3
        have hC3 := hC2.below b3
        obtain ⟨hl3, c0, c1, c2, f0, f1, f2⟩ := id hC3
        have hne : ¬ w3.heap.size = w.heap.size := by omega
        have hne2 : ¬ w.heap.size = w3.heap.size := by omega
        go_wp2_with fail
        refine ⟨rfl, ?_⟩
        rw [HP.out]
        exact ⟨rfl, hA3.alloc hA3.size _⟩
      · have k2 : decide ((400 : Int) < (F2.size : Int)) = false := decide_eq_false (by omega)
        have k2' : (F2.size : Int) ≤ 400 := by omega
        rw [decide_eq_false (by omega : ¬ 400 < F2.size)] at HP
        clear hl2
        go_enter Tryz.func40, Tryz.ntmps40
        go_wp2_with (first
          | (go_at_call 62; refine (hgc _ hT0).mono ?_; rintro e w1 ⟨rfl, b1⟩; have hA1 := bstep hb0 b1; have hT1 := hT.below hA1; have hC1 := hC.below b1)
          | (go_at_call 51; refine (hm _).mono ?_; rintro e w2 ⟨rfl, rfl⟩)
          | (go_at_call_of 65 (Value.string a); refine (hq1 _ hT1).mono ?_; rintro e w2 ⟨rfl, b2⟩; have hA2 := bstep hA1 b2; have hT2 := hT.below hA2; have hC2 := hC1.below b2))
        refine (hq2 _ hT2).mono ?_
        rintro e w3 ⟨rfl, b3⟩
        have hA3 := bstep hA2 b3
        have hC3 := hC2.below b3
        obtain ⟨hl3, c0, c1, c2, f0, f1, f2⟩ := id hC3
        have hne : ¬ w3.heap.size = w.heap.size := by omega
        have hne2 : ¬ w.heap.size = w3.heap.size := by omega
        go_wp2_with fail
        have hCf := (hC3.set (.bool false) (.string F1) (.string F2)).below ((Below.refl _ _).alloc (Nat.le_refl _) (.cells #[.bool false, .string F1, .string F2] 43))
        refine bodyPost_ret (by simp [results, Tryz.results40, hCf.c0, hCf.c1, hCf.c2, go_sem]; try rfl) rfl ?_
        rw [HP.out]
        exact ⟨rfl, ((((hA3.setCell (p := ⟨w.heap.size, 0, none⟩) (Nat.le_refl _) _).setCell (p := ⟨w.heap.size, 1, none⟩) (Nat.le_refl _) _).setCell (p := ⟨w.heap.size, 2, none⟩) (Nat.le_refl _) _).alloc (by simpa using hA3.size) _)⟩
  | true =>
    by_cases hm0 : m = 0
    · rw [decide_eq_true hm0] at h48
      obtain rfl : nb = false := by rw [← hnb]; simp [hm0]
      clear hnb hm0
      rcases Nat.lt_or_ge 400 F1.size with hl1 | hl1
      · have k1 : (400 : Int) < (F1.size : Int) := by omega
        rw [decide_eq_true hl1] at HP
        clear hl1
        go_enter Tryz.func40, Tryz.ntmps40
        go_wp2_with (first
          | (go_at_call 62; refine (hgc _ hT0).mono ?_; rintro e w1 ⟨rfl, b1⟩; have hA1 := bstep hb0 b1; have hT1 := hT.below hA1; have hC1 := hC.below b1)
          | (go_at_call 51; refine (hm _).mono ?_; rintro e w2 ⟨rfl, rfl⟩)
          | (go_at_call_of 65 (Value.string a); refine (hq1 _ hT1).mono ?_; rintro e w2 ⟨rfl, b2⟩; have hA2 := bstep hA1 b2; have hT2 := hT.below hA2; have hC2 := hC1.below b2))
        refine (hq2 _ hT2).mono ?_
        rintro e w3 ⟨rfl, b3⟩
        have hA3 := bstep hA2 b3
        have hC3 := hC2.below b3
        obtain ⟨hl3, c0, c1, c2, f0, f1, f2⟩ := id hC3
        have hne : ¬ w3.heap.size = w.heap.size := by omega
        have hne2 : ¬ w.heap.size = w3.heap.size := by omega
        go_wp2_with fail
        refine ⟨rfl, ?_⟩
        rw [HP.out]
        exact ⟨rfl, hA3.alloc hA3.size _⟩
      · have k1 : decide ((400 : Int) < (F1.size : Int)) = false := decide_eq_false (by omega)
        have k1' : (F1.size : Int) ≤ 400 := by omega
        rw [decide_eq_false (by omega : ¬ 400 < F1.size)] at HP
        clear hl1
        rcases Nat.lt_or_ge 400 F2.size with hl2 | hl2
        · have k2 : (400 : Int) < (F2.size : Int) := by omega
          rw [decide_eq_true hl2] at HP
          clear hl2
          go_enter Tryz.func40, Tryz.ntmps40
          go_wp2_with (first
            | (go_at_call 62; refine (hgc _ hT0).mono ?_; rintro e w1 ⟨rfl, b1⟩; have hA1 := bstep hb0 b1; have hT1 := hT.below hA1; have hC1 := hC.below b1)
            | (go_at_call 51; refine (hm _).mono ?_; rintro e w2 ⟨rfl, rfl⟩)
            | (go_at_call_of 65 (Value.string a); refine (hq1 _ hT1).mono ?_; rintro e w2 ⟨rfl, b2⟩; have hA2 := bstep hA1 b2; have hT2 := hT.below hA2; have hC2 := hC1.below b2))
          refine (hq2 _ hT2).mono ?_
          rintro e w3 ⟨rfl, b3⟩
          have hA3 := bstep hA2 b3
          have hC3 := hC2.below b3
          obtain ⟨hl3, c0, c1, c2, f0, f1, f2⟩ := id hC3
          have hne : ¬ w3.heap.size = w.heap.size := by omega
          have hne2 : ¬ w.heap.size = w3.heap.size := by omega
          go_wp2_with fail
          refine ⟨rfl, ?_⟩
          rw [HP.out]
          exact ⟨rfl, hA3.alloc hA3.size _⟩
        · have k2 : decide ((400 : Int) < (F2.size : Int)) = false := decide_eq_false (by omega)
          have k2' : (F2.size : Int) ≤ 400 := by omega
          rw [decide_eq_false (by omega : ¬ 400 < F2.size)] at HP
          clear hl2
          go_enter Tryz.func40, Tryz.ntmps40
          go_wp2_with (first
            | (go_at_call 62; refine (hgc _ hT0).mono ?_; rintro e w1 ⟨rfl, b1⟩; have hA1 := bstep hb0 b1; have hT1 := hT.below hA1; have hC1 := hC.below b1)
            | (go_at_call 51; refine (hm _).mono ?_; rintro e w2 ⟨rfl, rfl⟩)
            | (go_at_call_of 65 (Value.string a); refine (hq1 _ hT1).mono ?_; rintro e w2 ⟨rfl, b2⟩; have hA2 := bstep hA1 b2; have hT2 := hT.below hA2; have hC2 := hC1.below b2))
          refine (hq2 _ hT2).mono ?_
          rintro e w3 ⟨rfl, b3⟩
          have hA3 := bstep hA2 b3
          have hC3 := hC2.below b3
          obtain ⟨hl3, c0, c1, c2, f0, f1, f2⟩ := id hC3
          have hne : ¬ w3.heap.size = w.heap.size := by omega
          have hne2 : ¬ w.heap.size = w3.heap.size := by omega
          go_wp2_with fail
          have hCf := (hC3.set (.bool false) (.string F1) (.string F2)).below ((Below.refl _ _).alloc (Nat.le_refl _) (.cells #[.bool false, .string F1, .string F2] 43))
          refine bodyPost_ret (by simp [results, Tryz.results40, hCf.c0, hCf.c1, hCf.c2, go_sem]; try rfl) rfl ?_
          rw [HP.out]
          exact ⟨rfl, ((((hA3.setCell (p := ⟨w.heap.size, 0, none⟩) (Nat.le_refl _) _).setCell (p := ⟨w.heap.size, 1, none⟩) (Nat.le_refl _) _).setCell (p := ⟨w.heap.size, 2, none⟩) (Nat.le_refl _) _).alloc (by simpa using hA3.size) _)⟩
    · rw [decide_eq_false hm0] at h48
      obtain rfl : nb = true := by rw [← hnb]; simp [hm0]
      clear hnb hm0
      rcases Nat.lt_or_ge 400 F1.size with hl1 | hl1
      · have k1 : (400 : Int) < (F1.size : Int) := by omega
        rw [decide_eq_true hl1] at HP
        clear hl1
        go_enter Tryz.func40, Tryz.ntmps40
        go_wp2_with (first
          | (go_at_call 62; refine (hgc _ hT0).mono ?_; rintro e w1 ⟨rfl, b1⟩; have hA1 := bstep hb0 b1; have hT1 := hT.below hA1; have hC1 := hC.below b1)
          | (go_at_call 51; refine (hm _).mono ?_; rintro e w2 ⟨rfl, rfl⟩)
          | (go_at_call_of 65 (Value.string a); refine (hq1 _ hT1).mono ?_; rintro e w2 ⟨rfl, b2⟩; have hA2 := bstep hA1 b2; have hT2 := hT.below hA2; have hC2 := hC1.below b2))
        refine (hq2 _ hT2).mono ?_
        rintro e w3 ⟨rfl, b3⟩
        have hA3 := bstep hA2 b3
        have hC3 := hC2.below b3
        obtain ⟨hl3, c0, c1, c2, f0, f1, f2⟩ := id hC3
        have hne : ¬ w3.heap.size = w.heap.size := by omega
        have hne2 : ¬ w.heap.size = w3.heap.size := by omega
        go_wp2_with fail
        refine ⟨rfl, ?_⟩
        rw [HP.out]
        exact ⟨rfl, hA3.alloc hA3.size _⟩
      · have k1 : decide ((400 : Int) < (F1.size : Int)) = false := decide_eq_false (by omega)
        have k1' : (F1.size : Int) ≤ 400 := by omega
        rw [decide_eq_false (by omega : ¬ 400 < F1.size)] at HP
        clear hl1
        rcases Nat.lt_or_ge 400 F2.size with hl2 | hl2
        · have k2 : (400 : Int) < (F2.size : Int) := by omega
          rw [decide_eq_true hl2] at HP
          clear hl2
          go_enter Tryz.func40, Tryz.ntmps40
          go_wp2_with (first
            | (go_at_call 62; refine (hgc _ hT0).mono ?_; rintro e w1 ⟨rfl, b1⟩; have hA1 := bstep hb0 b1; have hT1 := hT.below hA1; have hC1 := hC.below b1)
            | (go_at_call 51; refine (hm _).mono ?_; rintro e w2 ⟨rfl, rfl⟩)
            | (go_at_call_of 65 (Value.string a); refine (hq1 _ hT1).mono ?_; rintro e w2 ⟨rfl, b2⟩; have hA2 := bstep hA1 b2; have hT2 := hT.below hA2; have hC2 := hC1.below b2))
          refine (hq2 _ hT2).mono ?_
          rintro e w3 ⟨rfl, b3⟩
          have hA3 := bstep hA2 b3
          have hC3 := hC2.below b3
          obtain ⟨hl3, c0, c1, c2, f0, f1, f2⟩ := id hC3
          have hne : ¬ w3.heap.size = w.heap.size := by omega
          have hne2 : ¬ w.heap.size = w3.heap.size := by omega
          go_wp2_with fail
          refine ⟨rfl, ?_⟩
          rw [HP.out]
          exact ⟨rfl, hA3.alloc hA3.size _⟩
        · have k2 : decide ((400 : Int) < (F2.size : Int)) = false := decide_eq_false (by omega)
          have k2' : (F2.size : Int) ≤ 400 := by omega
          rw [decide_eq_false (by omega : ¬ 400 < F2.size)] at HP
          clear hl2
          go_enter Tryz.func40, Tryz.ntmps40
          go_wp2_with (first
            | (go_at_call 62; refine (hgc _ hT0).mono ?_; rintro e w1 ⟨rfl, b1⟩; have hA1 := bstep hb0 b1; have hT1 := hT.below hA1; have hC1 := hC.below b1)
            | (go_at_call 51; refine (hm _).mono ?_; rintro e w2 ⟨rfl, rfl⟩)
            | (go_at_call_of 65 (Value.string a); refine (hq1 _ hT1).mono ?_; rintro e w2 ⟨rfl, b2⟩; have hA2 := bstep hA1 b2; have hT2 := hT.below hA2; have hC2 := hC1.below b2))
          refine (hq2 _ hT2).mono ?_
          rintro e w3 ⟨rfl, b3⟩
          have hA3 := bstep hA2 b3
          have hC3 := hC2.below b3
          obtain ⟨hl3, c0, c1, c2, f0, f1, f2⟩ := id hC3
          have hne : ¬ w3.heap.size = w.heap.size := by omega
          have hne2 : ¬ w.heap.size = w3.heap.size := by omega
          go_wp2_with fail
          have hCf := (hC3.set (.bool true) (.string F1) (.string F2)).below ((Below.refl _ _).alloc (Nat.le_refl _) (.cells #[.bool true, .string F1, .string F2] 43))
          refine bodyPost_ret (by simp [results, Tryz.results40, hCf.c0, hCf.c1, hCf.c2, go_sem]; try rfl) rfl ?_
          rw [HP.out]
          exact ⟨rfl, ((((hA3.setCell (p := ⟨w.heap.size, 0, none⟩) (Nat.le_refl _) _).setCell (p := ⟨w.heap.size, 1, none⟩) (Nat.le_refl _) _).setCell (p := ⟨w.heap.size, 2, none⟩) (Nat.le_refl _) _).alloc (by simpa using hA3.size) _)⟩
end Go.Proofs.YtfgmjdhoeilhcaaGreatDoor
