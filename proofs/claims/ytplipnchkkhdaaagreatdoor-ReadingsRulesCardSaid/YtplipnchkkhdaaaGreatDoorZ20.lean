/- Walks of the law's own size and large (layer 33). -/
import Derived.Test.YtplipnchkkhdaaaGreatDoorZ11
import Derived.Test.YtplipnchkkhdaaaGreatDoorZ13
import Derived.Test.YtplipnchkkhdaaaGreatDoorZ19
namespace Go.Proofs.YtplipnchkkhdaaaGreatDoor
open Go.RowKit
set_option linter.unusedVariables false

/-- what size reckons -/
def sizeGo : Nat → List Bs → Nat
  | n, [] => n
  | n, x :: r => if n ≤ 30000 then sizeGo (n + x.length) r else n
def sizeL (l : List Bs) : Nat := sizeGo l.length l
theorem sizeGo_ge : ∀ (l : List Bs) (n : Nat), n ≤ sizeGo n l
  | [], n => Nat.le_refl _
  | x :: r, n => by
    unfold sizeGo
    split
    · have := sizeGo_ge r (n + x.length); omega
    · exact Nat.le_refl _
theorem sizeGo_le : ∀ (l : List Bs) (n B : Nat), (∀ x ∈ l, x.length ≤ B) → sizeGo n l ≤ max n (30000 + B)
  | [], n, B, _ => by unfold sizeGo; omega
  | x :: r, n, B, h => by
    unfold sizeGo
    split
    · have := sizeGo_le r (n + x.length) B (fun y hy => h y (List.mem_cons_of_mem _ hy))
      have := h x List.mem_cons_self
      omega
    · omega
theorem sizeL_bd {l : List Bs} (hl : l.length ≤ 140737488355328) (hs : ∀ x ∈ l, x.length ≤ 140737488355328) : l.length ≤ sizeL l ∧ sizeL l ≤ 281474976710656 := by
  have h1 := sizeGo_ge l l.length
  have h2 := sizeGo_le l l.length 140737488355328 hs
  unfold sizeL
  omega
set_option maxHeartbeats 4000000 in
set_option maxRecDepth 100000 in
theorem size_same (A : Option Addr) (c : Nat) (l : List Bs) (w : World) (hrow : RowAt w A (l.map S)) (hl : l.length ≤ 140737488355328) (hs : ∀ x ∈ l, x.length ≤ 140737488355328) :
    Calls Tryz.prog 41 #[.slice A l.length c] w fun e w' => e = .returned (.int .i64 (sizeL l : Int)) ∧ w' = w := by
  have HS := Lib.hid hs
  have HZ : Hid (sizeL l = sizeGo l.length l) := rfl
  clear hs
  go_enter Tryz.func41, Tryz.ntmps41
  go_wp2_with fail
  go_loop [3, 4] (fun v i => ∃ (k n : Nat), v = .int .i64 n ∧ i = .int .i64 k ∧ k ≤ l.length ∧ n ≤ 140737488385329 ∧ Hid (sizeGo l.length l = sizeGo n (l.drop k))) (fun _ i => l.length - (intOf i).toNat)
  case atStart => exact ⟨0, l.length, rfl, rfl, by omega, by omega, by simp [Hid]⟩
  case round =>
    obtain ⟨k, n, rfl, rfl, hk, h2, HR⟩ := hrel
    by_cases hlt : k < l.length
    · have d1 : decide (k < l.length) = true := decide_eq_true hlt
      have HD : Hid (l.drop k = l[k] :: l.drop (k + 1)) := List.drop_eq_getElem_cons hlt
      by_cases hn : n ≤ 30000
      · have HN : Hid (sizeGo n (l.drop k) = sizeGo (n + l[k].length) (l.drop (k + 1))) := by rw [Hid, HD.out, sizeGo, if_pos hn]
        obtain ⟨b, o, rfl, hbl, hcell⟩ := hrow (by intro e; rw [List.map_eq_nil_iff] at e; rw [e] at hlt; simp at hlt)
        have hc : w.cell? ⟨b, o + k, none⟩ = some (.string ⟨l[k].toArray⟩) := hcell k _ (getS hlt)
        have hxe : (⟨l[k].toArray⟩ : ByteArray).size = l[k].length := by rw [Lib.size_eq]
        have hx : (⟨l[k].toArray⟩ : ByteArray).size ≤ 140737488355328 := by rw [hxe]; exact HS.out _ (List.getElem_mem _)
        have d2 : decide ((n : Int) ≤ 30000) = true := decide_eq_true (by omega)
        have k0 : (0 : Int) ≤ (k : Int) := by omega
        have kl : (k : Int) < (l.length : Int) := by omega
        rw [← hxe] at HN
        generalize (⟨l[k].toArray⟩ : ByteArray) = X at *
        clear hcell HD hxe
        go_wp2_with fail
        go_round
        case rel => exact ⟨k + 1, n + X.size, by go_num, by go_num, by omega, by omega, HR.out.trans HN.out⟩
        case measure => simp [intOf]; omega
      · have d2 : decide ((n : Int) ≤ 30000) = false := decide_eq_false (by omega)
        have HX : Hid (sizeL l = n) := by rw [Hid, HZ.out, HR.out, HD.out, sizeGo, if_neg hn]
        go_wp2_with fail
        go_returns
        exact ⟨by rw [HX.out]; rfl, rfl⟩
    · have d1 : decide (k < l.length) = false := decide_eq_false hlt
      have HX : Hid (sizeL l = n) := by rw [Hid, HZ.out, HR.out, List.drop_eq_nil_of_le (by omega)]; rfl
      go_wp2_with fail
      go_returns
      exact ⟨by rw [HX.out]; rfl, rfl⟩
theorem size_any (A : Option Addr) (c : Nat) (l : List Bs) (w : World) (hrow : RowAt w A (l.map S)) (hl : l.length ≤ 140737488355328) (hs : ∀ x ∈ l, x.length ≤ 140737488355328) :
    Calls Tryz.prog 41 #[.slice A l.length c] w fun e w' => (∃ n : Nat, e = .returned (.int .i64 (n : Int)) ∧ l.length ≤ n ∧ n ≤ 281474976710656) ∧ w = w' := by
  refine (size_same A c l w hrow hl hs).mono ?_
  rintro e w' ⟨rfl, rfl⟩
  exact ⟨⟨_, rfl, sizeL_bd hl hs⟩, rfl⟩
/-- lengths that memory can hold -/
def Holds3 (l : List Coh) : Prop := ∀ c ∈ l, c.form.length ≤ 140737488355328 ∧ c.reads.length ≤ 140737488355328 ∧ ∀ r ∈ c.reads, r.length ≤ 140737488355328 ∧ ∀ x ∈ r, x.length ≤ 140737488355328
def Fine3 (c : Coh) : Prop := c.reads.length ≤ 30000 ∧ ∀ r ∈ c.reads, r.length ≤ 30000
theorem take_all {α : Type} {p : α → Prop} {l : List α} {k : Nat} (hk : k < l.length) (h : ∀ x ∈ l.take k, p x) (hp : p l[k]) : ∀ x ∈ l.take (k + 1), p x := by
  intro x hx
  rw [List.take_succ_eq_append_getElem hk] at hx
  rcases List.mem_append.1 hx with hx | hx
  · exact h x hx
  · simp only [List.mem_singleton] at hx; subst hx; exact hp
set_option maxHeartbeats 8000000 in
set_option maxRecDepth 100000 in
theorem large_any (A : Option Addr) (c : Nat) (l : List Coh) (w : World) (hV : CohsV w (.slice A l.length c) l) (hl : l.length ≤ 140737488355328) (hh : Holds3 l) :
    Calls Tryz.prog 16 #[.slice A l.length c] w fun e w' => (∃ q : Bool, e = .returned (.bool q) ∧ (q = false → Sized l)) ∧ w = w' := by
  have HV := Lib.hid hV
  have HH := Lib.hid hh
  clear hV hh
  by_cases h250 : 250 < l.length
  · have d1 : decide ((250 : Int) < (l.length : Int)) = true := decide_eq_true (by omega)
    go_enter Tryz.func16, Tryz.ntmps16
    go_wp2_with fail
    go_returns
    exact ⟨⟨true, rfl, fun h => by cases h⟩, rfl⟩
  · have d1 : decide ((250 : Int) < (l.length : Int)) = false := decide_eq_false (by omega)
    have hl2 : l.length ≤ 250 := by omega
    clear h250
    go_enter Tryz.func16, Tryz.ntmps16
    go_wp2_with fail
    go_loopw [3, 4] (fun v i wr => w = wr ∧ ∃ (k n : Nat), v = .int .i64 n ∧ i = .int .i64 k ∧ k ≤ l.length ∧ n ≤ 400000000000000 + k * 140737488355328 ∧ Hid (n ≤ 30000 → ∀ c ∈ l.take k, Fine3 c)) (fun _ i _ => l.length - (intOf i).toNat)
    case atStart => exact ⟨rfl, 0, 0, rfl, rfl, by omega, by omega, by simp [Hid]⟩
    case round =>
      obtain ⟨rfl, k, n, rfl, rfl, hk, hn, HN⟩ := hrel
      by_cases hlt : k < l.length
      · obtain ⟨b, o, x, rfl, hbl, hc1, hc2, hr⟩ := HV.out.at hlt
        obtain ⟨m1, m2, m3⟩ := HH.out l[k] (List.getElem_mem _)
        have HT : Hid (∀ n', n ≤ n' → (n' ≤ 30000 → Fine3 l[k]) → n' ≤ 30000 → ∀ c ∈ l.take (k + 1), Fine3 c) := fun n' h1 h2 h3 => take_all hlt (HN.out (by omega)) (h2 h3)
        generalize l[k] = cc at *
        obtain ⟨F, hF⟩ : ∃ F : ByteArray, (⟨cc.form.toArray⟩ : ByteArray) = F := ⟨_, rfl⟩
        have hFs : F.size ≤ 140737488355328 := by rw [← hF, Lib.size_eq]; exact m1
        obtain ⟨Ax, cx, rfl⟩ := hr.form
        have k1 : w.cell? ⟨b, o + k * 2, none⟩ = some (.string F) := by rw [hc1, S, hF]
        have HR := Lib.hid hr
        have M3 := Lib.hid m3
        have k0 : (0 : Int) ≤ (k : Int) := by omega
        have kl : (k : Int) < (l.length : Int) := by omega
        have hkb : k * 140737488355328 ≤ 250 * 140737488355328 := Nat.mul_le_mul (by omega) (Nat.le_refl _)
        clear hF hc1 hr m1 m3
        go_wp2_with fail
        go_loopw [3, 5] (fun v j wr => w = wr ∧ ∃ (m n' : Nat), v = .int .i64 n' ∧ j = .int .i64 m ∧ m ≤ cc.reads.length ∧ n ≤ n' ∧ n' ≤ 400000000000000 + (k + 1) * 140737488355328 ∧ m ≤ n' ∧ Hid (n' ≤ 30000 → ∀ r ∈ cc.reads.take m, r.length ≤ 30000)) (fun _ j _ => cc.reads.length - (intOf j).toNat)
        case atStart => exact ⟨rfl, 0, n + F.size, by go_num, rfl, by omega, by omega, by omega, by omega, by simp [Hid]⟩
        case round =>
          obtain ⟨rfl, m, n', rfl, rfl, hm, hnn, hn', hmn, HM⟩ := hrel
          have hkb1 : (k + 1) * 140737488355328 ≤ 250 * 140737488355328 := Nat.mul_le_mul (by omega) (Nat.le_refl _)
          by_cases hlt2 : m < cc.reads.length
          · have d1 : decide (m < cc.reads.length) = true := decide_eq_true hlt2
            by_cases hn3 : n' ≤ 30000
            · obtain ⟨b', o', y, rfl, hbl', hc3, hy⟩ := HR.out.at hlt2
              obtain ⟨g1, g2⟩ := M3.out cc.reads[m] (List.getElem_mem _)
              have HT2 : Hid (∀ n2, n' ≤ n2 → cc.reads[m].length ≤ n2 → n2 ≤ 30000 → ∀ r ∈ cc.reads.take (m + 1), r.length ≤ 30000) := fun n2 h1 h2 h3 => take_all hlt2 (HM.out (by omega)) (by omega)
              generalize cc.reads[m] = rr at *
              obtain ⟨Ay, cy, rfl, hcy, hry⟩ := hy
              have p1 := size_any Ay cy rr w hry g1 g2
              have d2 : decide ((n' : Int) ≤ 30000) = true := decide_eq_true (by omega)
              have m0 : (0 : Int) ≤ (m : Int) := by omega
              have ml : (m : Int) < (cc.reads.length : Int) := by omega
              clear hry g2 hcy
              go_wp2_with fail
              refine p1.mono ?_
              rintro e wx ⟨⟨z, rfl, z1, z2⟩, rfl⟩
              go_wp2_with fail
              go_roundw
              case rel => exact ⟨(by first | rfl | trivial), m + 1, n' + 1 + z, by go_num, by go_num, by omega, by omega, by omega, by omega, HT2.out _ (by omega) (by omega)⟩
              case measure => simp [intOf]; omega
            · have d2 : decide ((n' : Int) ≤ 30000) = false := decide_eq_false (by omega)
              go_wp2_with fail
              go_roundw
              case rel => exact ⟨(by first | rfl | trivial), k + 1, n', rfl, by go_num, by omega, by omega, fun h => by omega⟩
              case measure => simp [intOf]; omega
          · obtain rfl : m = cc.reads.length := by omega
            have d1 : decide (cc.reads.length < cc.reads.length) = false := decide_eq_false (by omega)
            have HF : Hid (n' ≤ 30000 → ∀ c ∈ l.take (k + 1), Fine3 c) := HT.out n' hnn fun h => ⟨by omega, by have := HM.out h; rwa [List.take_length] at this⟩
            go_wp2_with fail
            go_roundw
            case rel => exact ⟨(by first | rfl | trivial), k + 1, n', rfl, by go_num, by omega, by omega, HF.out⟩
            case measure => simp [intOf]; omega
      · obtain rfl : k = l.length := by omega
        have HZ : Hid (n ≤ 30000 → Sized l) := fun h => by
          have h2 := HN.out h
          rw [List.take_length] at h2
          exact ⟨by omega, fun c hc => ⟨by have := (h2 c hc).1; omega, fun r hr => by have := (h2 c hc).2 r hr; omega⟩⟩
        go_wp2_with fail
        go_returns
        exact ⟨⟨decide ((30000 : Int) < (n : Int)), rfl, fun h => HZ.out (by have := of_decide_eq_false h; omega)⟩, rfl⟩

/- The statement ReadingsTexts: its walk. -/
open Go.RowKit
set_option linter.unusedVariables false

theorem cohsText_cases (l : List Coh) : (cohsText l).2 ≠ 0 ∨ (cohsText l = (textL l, 0) ∧ parseL (textL l) = (l, 0, 0)) := by
  unfold cohsText
  by_cases h : cohsOk l = true
  · rw [if_pos h]
    by_cases h2 : 16384 < (textL l).length
    · rw [if_pos h2]; exact Or.inl (by simp)
    · rw [if_neg h2]; exact Or.inr ⟨rfl, parse_text h (by omega)⟩
  · rw [if_neg h]; exact Or.inl (by simp)
set_option maxHeartbeats 8000000 in
set_option maxRecDepth 100000 in
theorem texts_any (A : Option Addr) (c : Nat) (l : List Coh) (w : World) (hT : TabH w) (hV : CohsV w (.slice A l.length c) l) (hl : l.length ≤ 140737488355328) (hh : Holds3 l) :
    Calls Tryz.prog 4 #[.slice A l.length c] w fun e w' => e = .returned (.bool true) ∧ Below w.heap.size w w' := by
  have p0 := large_any A c l w hV hl hh
  have HV := Lib.hid hV
  clear hV hh
  go_enter Tryz.func4, Tryz.ntmps4
  go_wp2_with fail
  refine p0.mono ?_
  rintro e w0 ⟨⟨q, rfl, hq⟩, rfl⟩
  cases q with
  | true =>
    clear hq p0
    go_wp2_with fail
    refine (awake_any _ hT).mono ?_
    rintro e w1 ⟨rfl, b1⟩
    go_wp2_with fail
    go_returns
    exact ⟨rfl, b1⟩
  | false =>
    have hS := Lib.hid (hq rfl)
    have p1 := text_any A c l w hT.t HV.out hS.out
    have p2 := fun (W : World) (b : Below w.heap.size w W) => rtextL_any A c l W (HV.out.below b) hS.out
    have p3 := fun (W : World) (b : Below w.heap.size w W) => valid_any A c l W (hT.below b).t (HV.out.below b) hS.out
    have p4 := fun (W : World) (b : Below w.heap.size w W) => rvalidL_any A c l W (HV.out.below b) hS.out
    have hcase := cohsText_cases l
    generalize cohsText l = TE at *
    generalize cohsOk l = bV at *
    obtain ⟨T, E⟩ := TE
    obtain ⟨TB, hTB⟩ : ∃ TB : ByteArray, (⟨T.toArray⟩ : ByteArray) = TB := ⟨_, rfl⟩
    have hTd : T = TB.data.toList := by rw [← hTB]
    dsimp only at *
    rw [hTB] at p1
    simp only [hTB] at p2
    have HC := Lib.hid hcase
    have HTD := Lib.hid hTd
    have P2 := Lib.hid p2
    have P3 := Lib.hid p3
    have P4 := Lib.hid p4
    clear hq p0 p2 p3 p4 hTB hTd hcase
    go_wp2_with fail
    refine p1.mono ?_
    rintro e w1 ⟨rfl, b1⟩
    clear p1
    go_wp2_with fail
    refine (P2.out _ b1).mono ?_
    rintro e w2 ⟨rfl, b2⟩
    have k2 := bstep b1 b2
    go_wp2_with fail
    refine (P3.out _ k2).mono ?_
    rintro e w3 ⟨rfl, b3⟩
    have k3 := bstep k2 b3
    go_wp2_with fail
    refine (P4.out _ k3).mono ?_
    rintro e w4 ⟨rfl, b4⟩
    have k4 := bstep k3 b4
    rcases HC.out with hE | ⟨hE, hP⟩
    · have hE2 : (((E : Nat) : Int) != 0) = true := by simpa using hE
      clear hE
      go_wp2_with fail
      refine (awake_any _ (hT.below k4)).mono ?_
      rintro e w5 ⟨rfl, b5⟩
      go_wp2_with fail
      go_returns
      exact ⟨rfl, bstep k4 b5⟩
    · obtain ⟨hE1, hE2⟩ := Prod.mk.inj hE
      have HP : Hid (parseL TB.data.toList = (l, 0, 0)) := by rw [Hid, ← HTD.out, hE1]; exact hP
      have hE0 : (((E : Nat) : Int) != 0) = false := by rw [hE2]; rfl
      clear hE hE1 hE2 hP
      have p5 := parse_any TB w4 (hT.below k4)
      rw [HP.out] at p5
      go_wp2_with fail
      refine p5.mono ?_
      rintro e w5 ⟨v, rfl, V, b5⟩
      obtain ⟨B, d, rfl⟩ : ∃ A c, v = .slice A l.length c := by
        obtain ⟨xs, ⟨A, c, rfl, h1, h2⟩, h3⟩ := V
        exact ⟨A, c, rfl⟩
      have k5 := bstep k4 b5
      have p6 := rsame_any B A d c l l w5 V (HV.out.below k5) hS.out hS.out
      rw [decide_eq_true (rfl : l = l)] at p6
      clear p5 V
      go_wp2_with fail
      refine p6.mono ?_
      rintro e w6 ⟨rfl, b6⟩
      have k6 := bstep k5 b6
      clear p6
      go_wp2_with fail
      refine (awake_any _ (hT.below k6)).mono ?_
      rintro e w7 ⟨rfl, b7⟩
      go_wp2_with fail
      go_returns
      exact ⟨rfl, bstep k6 b7⟩
end Go.Proofs.YtplipnchkkhdaaaGreatDoor
