/- Walks: the closures of Add and Sub of rat. -/
import Derived.Test.YtfgmjdhoeilhcaaGreatDoorQe
namespace Go.Proofs.YtfgmjdhoeilhcaaGreatDoor
open Go.RowKit
set_option linter.unusedVariables false

theorem addS_le (s : Bool) (m : Nat) (t : Bool) (n : Nat) : (addS s m t n).2 ≤ m + n := by
  unfold addS
  split
  · exact Nat.le_refl _
  · split <;> simp <;> omega
theorem addLen {F G : ByteArray} {M N : Nat} (hF : F.data.toList = decT M) (hG : G.data.toList = decT N) (sF : F.size ≤ 800) (sG : G.size ≤ 800) : (decT (M + N)).length ≤ 801 := by
  have := decT_add M N 800 (by omega) (by rw [← hF, ← Lib.size_eq]; exact sF) (by rw [← hG, ← Lib.size_eq]; exact sG)
  omega


set_option maxHeartbeats 8000000 in
set_option maxRecDepth 100000 in
theorem cloAdd_any (p q : Bool) (A D B E : ByteArray) (m d n e : Nat) (w : World) (hT : Tabs w) (hx : Num A D m d) (hy : Num B E n e) :
    Calls Tryz.prog 56 #[.agg #[.bool p, .string A, .string D], .agg #[.bool q, .string B, .string E]] w (RedPost (addS p (m * e) (q) (n * d)).1 (addS p (m * e) (q) (n * d)).2 (d * e) w) := by
  obtain ⟨F, hF⟩ : ∃ F : ByteArray, (⟨(decT (m * e)).toArray⟩ : ByteArray) = F := ⟨_, rfl⟩
  obtain ⟨G, hG⟩ : ∃ G : ByteArray, (⟨(decT (n * d)).toArray⟩ : ByteArray) = G := ⟨_, rfl⟩
  obtain ⟨H, hH⟩ : ∃ G : ByteArray, (⟨(decT (d * e)).toArray⟩ : ByteArray) = G := ⟨_, rfl⟩
  have m1 := mulStr A E _ _ F hF hx.a hy.d hx.sa hy.sd
  have m2 := mulStr B D _ _ G hG hy.a hx.d hy.sa hx.sd
  have m3 := mulStr D E _ _ H hH hx.d hy.d hx.sd hy.sd
  obtain ⟨hFd, sF⟩ := mulSize A E _ _ F hF hx.a hy.d hx.sa hy.sd
  obtain ⟨hGd, sG⟩ := mulSize B D _ _ G hG hy.a hx.d hy.sa hx.sd
  obtain ⟨hHd, sH⟩ := mulSize D E _ _ H hH hx.d hy.d hx.sd hy.sd
  have hal := addLen hFd hGd sF sG
  have hpl := fun W hT => rplus_any p (q) F G _ _ W hT hFd hGd (by omega) (by omega) (by omega)
  obtain ⟨S, hS0⟩ : ∃ S : ByteArray, (⟨(decT (addS p (m * e) (q) (n * d)).2).toArray⟩ : ByteArray) = S := ⟨_, rfl⟩
  have hSd : S.data.toList = decT (addS p (m * e) (q) (n * d)).2 := by rw [← hS0]
  have sS : S.size ≤ 1000 := by
    rw [Lib.size_eq, hSd]
    have := decT_mono (addS_le p (m * e) (q) (n * d))
    omega
  simp only [hS0] at hpl
  have hr := fun W hT => reduce_any (addS p (m * e) (q) (n * d)).1 S H _ _ W hT hSd hHd sS (by omega) (Nat.mul_ne_zero hx.nz hy.nz)
  have hmF := fun W => must_ok F W
  have hmG := fun W => must_ok G W
  have hmH := fun W => must_ok H W
  have hS := SX.start w hT p q A D B E
  generalize (addS p (m * e) (q) (n * d)).1 = sg at *
  generalize (addS p (m * e) (q) (n * d)).2 = N at *
  generalize d * e = Dn at *
  have hS' : ((((w.alloc (.cells #[.bool p, .string A, .string D] 43)).alloc (.cells #[.bool q, .string B, .string E] 43)).alloc (.cells #[.bool false, .string ⟨#[]⟩, .string ⟨#[]⟩] 43))).cell? ⟨w.heap.size, 0, none⟩ = some (.bool p) ∧ ((((w.alloc (.cells #[.bool p, .string A, .string D] 43)).alloc (.cells #[.bool q, .string B, .string E] 43)).alloc (.cells #[.bool false, .string ⟨#[]⟩, .string ⟨#[]⟩] 43))).cell? ⟨w.heap.size, 1, none⟩ = some (.string A) ∧ ((((w.alloc (.cells #[.bool p, .string A, .string D] 43)).alloc (.cells #[.bool q, .string B, .string E] 43)).alloc (.cells #[.bool false, .string ⟨#[]⟩, .string ⟨#[]⟩] 43))).cell? ⟨w.heap.size, 2, none⟩ = some (.string D) ∧ ((((w.alloc (.cells #[.bool p, .string A, .string D] 43)).alloc (.cells #[.bool q, .string B, .string E] 43)).alloc (.cells #[.bool false, .string ⟨#[]⟩, .string ⟨#[]⟩] 43))).cell? ⟨w.heap.size + 1, 0, none⟩ = some (.bool q) ∧ ((((w.alloc (.cells #[.bool p, .string A, .string D] 43)).alloc (.cells #[.bool q, .string B, .string E] 43)).alloc (.cells #[.bool false, .string ⟨#[]⟩, .string ⟨#[]⟩] 43))).cell? ⟨w.heap.size + 1, 1, none⟩ = some (.string B) ∧ ((((w.alloc (.cells #[.bool p, .string A, .string D] 43)).alloc (.cells #[.bool q, .string B, .string E] 43)).alloc (.cells #[.bool false, .string ⟨#[]⟩, .string ⟨#[]⟩] 43))).cell? ⟨w.heap.size + 1, 2, none⟩ = some (.string E) ∧ ((((w.alloc (.cells #[.bool p, .string A, .string D] 43)).alloc (.cells #[.bool q, .string B, .string E] 43)).alloc (.cells #[.bool false, .string ⟨#[]⟩, .string ⟨#[]⟩] 43))).cell? ⟨w.heap.size + 1 + 1, 0, none⟩ = some (peek ((((w.alloc (.cells #[.bool p, .string A, .string D] 43)).alloc (.cells #[.bool q, .string B, .string E] 43)).alloc (.cells #[.bool false, .string ⟨#[]⟩, .string ⟨#[]⟩] 43))) ⟨w.heap.size + 1 + 1, 0, none⟩) ∧ ((((w.alloc (.cells #[.bool p, .string A, .string D] 43)).alloc (.cells #[.bool q, .string B, .string E] 43)).alloc (.cells #[.bool false, .string ⟨#[]⟩, .string ⟨#[]⟩] 43))).cell? ⟨w.heap.size + 1 + 1, 1, none⟩ = some (peek ((((w.alloc (.cells #[.bool p, .string A, .string D] 43)).alloc (.cells #[.bool q, .string B, .string E] 43)).alloc (.cells #[.bool false, .string ⟨#[]⟩, .string ⟨#[]⟩] 43))) ⟨w.heap.size + 1 + 1, 1, none⟩) ∧ ((((w.alloc (.cells #[.bool p, .string A, .string D] 43)).alloc (.cells #[.bool q, .string B, .string E] 43)).alloc (.cells #[.bool false, .string ⟨#[]⟩, .string ⟨#[]⟩] 43))).cell? ⟨w.heap.size + 1 + 1, 2, none⟩ = some (peek ((((w.alloc (.cells #[.bool p, .string A, .string D] 43)).alloc (.cells #[.bool q, .string B, .string E] 43)).alloc (.cells #[.bool false, .string ⟨#[]⟩, .string ⟨#[]⟩] 43))) ⟨w.heap.size + 1 + 1, 2, none⟩) ∧ ((((w.alloc (.cells #[.bool p, .string A, .string D] 43)).alloc (.cells #[.bool q, .string B, .string E] 43)).alloc (.cells #[.bool false, .string ⟨#[]⟩, .string ⟨#[]⟩] 43))).frozen? ⟨w.heap.size + 1 + 1, 0, none⟩ = false ∧ ((((w.alloc (.cells #[.bool p, .string A, .string D] 43)).alloc (.cells #[.bool q, .string B, .string E] 43)).alloc (.cells #[.bool false, .string ⟨#[]⟩, .string ⟨#[]⟩] 43))).frozen? ⟨w.heap.size + 1 + 1, 1, none⟩ = false ∧ ((((w.alloc (.cells #[.bool p, .string A, .string D] 43)).alloc (.cells #[.bool q, .string B, .string E] 43)).alloc (.cells #[.bool false, .string ⟨#[]⟩, .string ⟨#[]⟩] 43))).frozen? ⟨w.heap.size + 1 + 1, 2, none⟩ = false ∧ Tabs ((((w.alloc (.cells #[.bool p, .string A, .string D] 43)).alloc (.cells #[.bool q, .string B, .string E] 43)).alloc (.cells #[.bool false, .string ⟨#[]⟩, .string ⟨#[]⟩] 43))) ∧ Below w.heap.size w ((((w.alloc (.cells #[.bool p, .string A, .string D] 43)).alloc (.cells #[.bool q, .string B, .string E] 43)).alloc (.cells #[.bool false, .string ⟨#[]⟩, .string ⟨#[]⟩] 43))) := hS
  clear hS hF hG hH hFd hGd hHd hS0 hSd hal
  obtain ⟨F1, hF1⟩ : ∃ F : ByteArray, (⟨(decT (N / Nat.gcd N Dn)).toArray⟩ : ByteArray) = F := ⟨_, rfl⟩
  obtain ⟨F2, hF2⟩ : ∃ F : ByteArray, (⟨(decT (Dn / Nat.gcd N Dn)).toArray⟩ : ByteArray) = F := ⟨_, rfl⟩
  obtain ⟨nb, hnb⟩ : ∃ b, (sg && decide (N ≠ 0)) = b := ⟨_, rfl⟩
  have hRV : redV sg N Dn = .agg #[.bool nb, .string F1, .string F2] := by unfold redV; rw [hnb, hF1, hF2]
  have HP : Hid (RedPost sg N Dn w = fun e w' => e = (if redLong N Dn = true then longP else .returned (.agg #[.bool nb, .string F1, .string F2])) ∧ Below w.heap.size w w') := by rw [Hid, ← hRV]; rfl
  unfold RedPost at hr
  rw [hRV] at hr
  clear hRV hF1 hF2 hnb
  go_enter Tryz.func56, Tryz.ntmps56
  go_wp2_with fail
  generalize ((w.alloc (.cells #[.bool p, .string A, .string D] 43)).alloc (.cells #[.bool q, .string B, .string E] 43)).alloc (.cells #[.bool false, .string ⟨#[]⟩, .string ⟨#[]⟩] 43) = W0 at hS' ⊢
  go_region_held2 (fun w' => w'.cell? ⟨w.heap.size, 0, none⟩ = some (.bool p) ∧ w'.cell? ⟨w.heap.size, 1, none⟩ = some (.string A) ∧ w'.cell? ⟨w.heap.size, 2, none⟩ = some (.string D) ∧ w'.cell? ⟨w.heap.size + 1, 0, none⟩ = some (.bool q) ∧ w'.cell? ⟨w.heap.size + 1, 1, none⟩ = some (.string B) ∧ w'.cell? ⟨w.heap.size + 1, 2, none⟩ = some (.string E) ∧ w'.cell? ⟨w.heap.size + 1 + 1, 0, none⟩ = some (peek w' ⟨w.heap.size + 1 + 1, 0, none⟩) ∧ w'.cell? ⟨w.heap.size + 1 + 1, 1, none⟩ = some (peek w' ⟨w.heap.size + 1 + 1, 1, none⟩) ∧ w'.cell? ⟨w.heap.size + 1 + 1, 2, none⟩ = some (peek w' ⟨w.heap.size + 1 + 1, 2, none⟩) ∧ w'.frozen? ⟨w.heap.size + 1 + 1, 0, none⟩ = false ∧ w'.frozen? ⟨w.heap.size + 1 + 1, 1, none⟩ = false ∧ w'.frozen? ⟨w.heap.size + 1 + 1, 2, none⟩ = false ∧ Tabs w' ∧ Below w.heap.size w w')
    (first | assumption | exact keepD9 hS' | exact keepE hbx (by assumption))
    (first
      | (go_at_call_of 52 (Value.string A); refine (m1 _ (keepT (by assumption))).mono ?_; rintro e wx ⟨rfl, hbx⟩)
      | (go_at_call_of 52 (Value.string B); refine (m2 _ (keepT (by assumption))).mono ?_; rintro e wx ⟨rfl, hbx⟩)
      | (go_at_call_of 51 (Value.string F); refine (hmF _).mono ?_; rintro e wx ⟨rfl, rfl⟩)
      | (go_at_call_of 51 (Value.string G); refine (hmG _).mono ?_; rintro e wx ⟨rfl, rfl⟩)
      | (go_at_call 50; refine (hpl _ (keepT (by assumption))).mono ?_; rintro e wx ⟨rfl, hbx⟩))
  go_wp2_with fail
  refine (m3 _ (keepT (by assumption))).mono ?_
  rintro e wy ⟨rfl, hby⟩
  have hS2 := keepE hby (by assumption)
  go_wp2_with (go_at_call 51; refine (hmH _).mono ?_; rintro e wx ⟨rfl, rfl⟩)
  refine (hr _ (keepT hS2)).mono ?_
  rintro e wz ⟨he, hbz⟩
  have hS3 := keepE hbz hS2
  have hBF := keepB9 hS3
  by_cases hl : redLong N Dn = true
  · rw [if_pos hl] at he
    subst he
    unfold longP
    go_wp2_with fail
    refine ⟨rfl, ?_⟩
    rw [HP.out, if_pos hl]
    exact ⟨rfl, hBF⟩
  · rw [if_neg hl] at he
    subst he
    obtain ⟨x0, y0, z0, hCel⟩ := celE hS3
    obtain ⟨hlz, c0, c1, c2, f0, f1, f2⟩ := id hCel
    clear hS2 hS3
    go_wp2_with fail
    have hCf := hCel.set (y' := .string F1) (.bool nb) (.string F2)
    refine bodyPost_ret (by simp [results, Tryz.results56, hCf.c0, hCf.c1, hCf.c2, go_sem]; try rfl) rfl ?_
    rw [HP.out, if_neg hl]
    exact ⟨rfl, (((hBF.setCell (p := ⟨w.heap.size + 1 + 1, 0, none⟩) (by show _ ≤ w.heap.size + 1 + 1; omega) _).setCell (p := ⟨w.heap.size + 1 + 1, 1, none⟩) (by show _ ≤ w.heap.size + 1 + 1; omega) _).setCell (p := ⟨w.heap.size + 1 + 1, 2, none⟩) (by show _ ≤ w.heap.size + 1 + 1; omega) _)⟩

set_option maxHeartbeats 8000000 in
set_option maxRecDepth 100000 in
theorem cloSub_any (p q : Bool) (A D B E : ByteArray) (m d n e : Nat) (w : World) (hT : Tabs w) (hx : Num A D m d) (hy : Num B E n e) :
    Calls Tryz.prog 57 #[.agg #[.bool p, .string A, .string D], .agg #[.bool q, .string B, .string E]] w (RedPost (addS p (m * e) (!q) (n * d)).1 (addS p (m * e) (!q) (n * d)).2 (d * e) w) := by
  obtain ⟨F, hF⟩ : ∃ F : ByteArray, (⟨(decT (m * e)).toArray⟩ : ByteArray) = F := ⟨_, rfl⟩
  obtain ⟨G, hG⟩ : ∃ G : ByteArray, (⟨(decT (n * d)).toArray⟩ : ByteArray) = G := ⟨_, rfl⟩
  obtain ⟨H, hH⟩ : ∃ G : ByteArray, (⟨(decT (d * e)).toArray⟩ : ByteArray) = G := ⟨_, rfl⟩
  have m1 := mulStr A E _ _ F hF hx.a hy.d hx.sa hy.sd
  have m2 := mulStr B D _ _ G hG hy.a hx.d hy.sa hx.sd
  have m3 := mulStr D E _ _ H hH hx.d hy.d hx.sd hy.sd
  obtain ⟨hFd, sF⟩ := mulSize A E _ _ F hF hx.a hy.d hx.sa hy.sd
  obtain ⟨hGd, sG⟩ := mulSize B D _ _ G hG hy.a hx.d hy.sa hx.sd
  obtain ⟨hHd, sH⟩ := mulSize D E _ _ H hH hx.d hy.d hx.sd hy.sd
  have hal := addLen hFd hGd sF sG
  have hpl := fun W hT => rplus_any p (!q) F G _ _ W hT hFd hGd (by omega) (by omega) (by omega)
  obtain ⟨S, hS0⟩ : ∃ S : ByteArray, (⟨(decT (addS p (m * e) (!q) (n * d)).2).toArray⟩ : ByteArray) = S := ⟨_, rfl⟩
  have hSd : S.data.toList = decT (addS p (m * e) (!q) (n * d)).2 := by rw [← hS0]
  have sS : S.size ≤ 1000 := by
    rw [Lib.size_eq, hSd]
    have := decT_mono (addS_le p (m * e) (!q) (n * d))
    omega
  simp only [hS0] at hpl
  have hr := fun W hT => reduce_any (addS p (m * e) (!q) (n * d)).1 S H _ _ W hT hSd hHd sS (by omega) (Nat.mul_ne_zero hx.nz hy.nz)
  have hmF := fun W => must_ok F W
  have hmG := fun W => must_ok G W
  have hmH := fun W => must_ok H W
  have hS := SX.start w hT p q A D B E
  generalize (addS p (m * e) (!q) (n * d)).1 = sg at *
  generalize (addS p (m * e) (!q) (n * d)).2 = N at *
  generalize d * e = Dn at *
  have hS' : ((((w.alloc (.cells #[.bool p, .string A, .string D] 43)).alloc (.cells #[.bool q, .string B, .string E] 43)).alloc (.cells #[.bool false, .string ⟨#[]⟩, .string ⟨#[]⟩] 43))).cell? ⟨w.heap.size, 0, none⟩ = some (.bool p) ∧ ((((w.alloc (.cells #[.bool p, .string A, .string D] 43)).alloc (.cells #[.bool q, .string B, .string E] 43)).alloc (.cells #[.bool false, .string ⟨#[]⟩, .string ⟨#[]⟩] 43))).cell? ⟨w.heap.size, 1, none⟩ = some (.string A) ∧ ((((w.alloc (.cells #[.bool p, .string A, .string D] 43)).alloc (.cells #[.bool q, .string B, .string E] 43)).alloc (.cells #[.bool false, .string ⟨#[]⟩, .string ⟨#[]⟩] 43))).cell? ⟨w.heap.size, 2, none⟩ = some (.string D) ∧ ((((w.alloc (.cells #[.bool p, .string A, .string D] 43)).alloc (.cells #[.bool q, .string B, .string E] 43)).alloc (.cells #[.bool false, .string ⟨#[]⟩, .string ⟨#[]⟩] 43))).cell? ⟨w.heap.size + 1, 0, none⟩ = some (.bool q) ∧ ((((w.alloc (.cells #[.bool p, .string A, .string D] 43)).alloc (.cells #[.bool q, .string B, .string E] 43)).alloc (.cells #[.bool false, .string ⟨#[]⟩, .string ⟨#[]⟩] 43))).cell? ⟨w.heap.size + 1, 1, none⟩ = some (.string B) ∧ ((((w.alloc (.cells #[.bool p, .string A, .string D] 43)).alloc (.cells #[.bool q, .string B, .string E] 43)).alloc (.cells #[.bool false, .string ⟨#[]⟩, .string ⟨#[]⟩] 43))).cell? ⟨w.heap.size + 1, 2, none⟩ = some (.string E) ∧ ((((w.alloc (.cells #[.bool p, .string A, .string D] 43)).alloc (.cells #[.bool q, .string B, .string E] 43)).alloc (.cells #[.bool false, .string ⟨#[]⟩, .string ⟨#[]⟩] 43))).cell? ⟨w.heap.size + 1 + 1, 0, none⟩ = some (peek ((((w.alloc (.cells #[.bool p, .string A, .string D] 43)).alloc (.cells #[.bool q, .string B, .string E] 43)).alloc (.cells #[.bool false, .string ⟨#[]⟩, .string ⟨#[]⟩] 43))) ⟨w.heap.size + 1 + 1, 0, none⟩) ∧ ((((w.alloc (.cells #[.bool p, .string A, .string D] 43)).alloc (.cells #[.bool q, .string B, .string E] 43)).alloc (.cells #[.bool false, .string ⟨#[]⟩, .string ⟨#[]⟩] 43))).cell? ⟨w.heap.size + 1 + 1, 1, none⟩ = some (peek ((((w.alloc (.cells #[.bool p, .string A, .string D] 43)).alloc (.cells #[.bool q, .string B, .string E] 43)).alloc (.cells #[.bool false, .string ⟨#[]⟩, .string ⟨#[]⟩] 43))) ⟨w.heap.size + 1 + 1, 1, none⟩) ∧ ((((w.alloc (.cells #[.bool p, .string A, .string D] 43)).alloc (.cells #[.bool q, .string B, .string E] 43)).alloc (.cells #[.bool false, .string ⟨#[]⟩, .string ⟨#[]⟩] 43))).cell? ⟨w.heap.size + 1 + 1, 2, none⟩ = some (peek ((((w.alloc (.cells #[.bool p, .string A, .string D] 43)).alloc (.cells #[.bool q, .string B, .string E] 43)).alloc (.cells #[.bool false, .string ⟨#[]⟩, .string ⟨#[]⟩] 43))) ⟨w.heap.size + 1 + 1, 2, none⟩) ∧ ((((w.alloc (.cells #[.bool p, .string A, .string D] 43)).alloc (.cells #[.bool q, .string B, .string E] 43)).alloc (.cells #[.bool false, .string ⟨#[]⟩, .string ⟨#[]⟩] 43))).frozen? ⟨w.heap.size + 1 + 1, 0, none⟩ = false ∧ ((((w.alloc (.cells #[.bool p, .string A, .string D] 43)).alloc (.cells #[.bool q, .string B, .string E] 43)).alloc (.cells #[.bool false, .string ⟨#[]⟩, .string ⟨#[]⟩] 43))).frozen? ⟨w.heap.size + 1 + 1, 1, none⟩ = false ∧ ((((w.alloc (.cells #[.bool p, .string A, .string D] 43)).alloc (.cells #[.bool q, .string B, .string E] 43)).alloc (.cells #[.bool false, .string ⟨#[]⟩, .string ⟨#[]⟩] 43))).frozen? ⟨w.heap.size + 1 + 1, 2, none⟩ = false ∧ Tabs ((((w.alloc (.cells #[.bool p, .string A, .string D] 43)).alloc (.cells #[.bool q, .string B, .string E] 43)).alloc (.cells #[.bool false, .string ⟨#[]⟩, .string ⟨#[]⟩] 43))) ∧ Below w.heap.size w ((((w.alloc (.cells #[.bool p, .string A, .string D] 43)).alloc (.cells #[.bool q, .string B, .string E] 43)).alloc (.cells #[.bool false, .string ⟨#[]⟩, .string ⟨#[]⟩] 43))) := hS
  clear hS hF hG hH hFd hGd hHd hS0 hSd hal
  obtain ⟨F1, hF1⟩ : ∃ F : ByteArray, (⟨(decT (N / Nat.gcd N Dn)).toArray⟩ : ByteArray) = F := ⟨_, rfl⟩
  obtain ⟨F2, hF2⟩ : ∃ F : ByteArray, (⟨(decT (Dn / Nat.gcd N Dn)).toArray⟩ : ByteArray) = F := ⟨_, rfl⟩
  obtain ⟨nb, hnb⟩ : ∃ b, (sg && decide (N ≠ 0)) = b := ⟨_, rfl⟩
  have hRV : redV sg N Dn = .agg #[.bool nb, .string F1, .string F2] := by unfold redV; rw [hnb, hF1, hF2]
  have HP : Hid (RedPost sg N Dn w = fun e w' => e = (if redLong N Dn = true then longP else .returned (.agg #[.bool nb, .string F1, .string F2])) ∧ Below w.heap.size w w') := by rw [Hid, ← hRV]; rfl
  unfold RedPost at hr
  rw [hRV] at hr
  clear hRV hF1 hF2 hnb
  go_enter Tryz.func57, Tryz.ntmps57
  go_wp2_with fail
  generalize ((w.alloc (.cells #[.bool p, .string A, .string D] 43)).alloc (.cells #[.bool q, .string B, .string E] 43)).alloc (.cells #[.bool false, .string ⟨#[]⟩, .string ⟨#[]⟩] 43) = W0 at hS' ⊢
  go_region_held2 (fun w' => w'.cell? ⟨w.heap.size, 0, none⟩ = some (.bool p) ∧ w'.cell? ⟨w.heap.size, 1, none⟩ = some (.string A) ∧ w'.cell? ⟨w.heap.size, 2, none⟩ = some (.string D) ∧ w'.cell? ⟨w.heap.size + 1, 0, none⟩ = some (.bool q) ∧ w'.cell? ⟨w.heap.size + 1, 1, none⟩ = some (.string B) ∧ w'.cell? ⟨w.heap.size + 1, 2, none⟩ = some (.string E) ∧ w'.cell? ⟨w.heap.size + 1 + 1, 0, none⟩ = some (peek w' ⟨w.heap.size + 1 + 1, 0, none⟩) ∧ w'.cell? ⟨w.heap.size + 1 + 1, 1, none⟩ = some (peek w' ⟨w.heap.size + 1 + 1, 1, none⟩) ∧ w'.cell? ⟨w.heap.size + 1 + 1, 2, none⟩ = some (peek w' ⟨w.heap.size + 1 + 1, 2, none⟩) ∧ w'.frozen? ⟨w.heap.size + 1 + 1, 0, none⟩ = false ∧ w'.frozen? ⟨w.heap.size + 1 + 1, 1, none⟩ = false ∧ w'.frozen? ⟨w.heap.size + 1 + 1, 2, none⟩ = false ∧ Tabs w' ∧ Below w.heap.size w w')
    (first | assumption | exact keepD9 hS' | exact keepE hbx (by assumption))
    (first
      | (go_at_call_of 52 (Value.string A); refine (m1 _ (keepT (by assumption))).mono ?_; rintro e wx ⟨rfl, hbx⟩)
      | (go_at_call_of 52 (Value.string B); refine (m2 _ (keepT (by assumption))).mono ?_; rintro e wx ⟨rfl, hbx⟩)
      | (go_at_call_of 51 (Value.string F); refine (hmF _).mono ?_; rintro e wx ⟨rfl, rfl⟩)
      | (go_at_call_of 51 (Value.string G); refine (hmG _).mono ?_; rintro e wx ⟨rfl, rfl⟩)
      | (go_at_call 50; refine (hpl _ (keepT (by assumption))).mono ?_; rintro e wx ⟨rfl, hbx⟩))
  go_wp2_with fail
  refine (m3 _ (keepT (by assumption))).mono ?_
  rintro e wy ⟨rfl, hby⟩
  have hS2 := keepE hby (by assumption)
  go_wp2_with (go_at_call 51; refine (hmH _).mono ?_; rintro e wx ⟨rfl, rfl⟩)
  refine (hr _ (keepT hS2)).mono ?_
  rintro e wz ⟨he, hbz⟩
  have hS3 := keepE hbz hS2
  have hBF := keepB9 hS3
  by_cases hl : redLong N Dn = true
  · rw [if_pos hl] at he
    subst he
    unfold longP
    go_wp2_with fail
    refine ⟨rfl, ?_⟩
    rw [HP.out, if_pos hl]
    exact ⟨rfl, hBF⟩
  · rw [if_neg hl] at he
    subst he
    obtain ⟨x0, y0, z0, hCel⟩ := celE hS3
    obtain ⟨hlz, c0, c1, c2, f0, f1, f2⟩ := id hCel
    clear hS2 hS3
    go_wp2_with fail
    have hCf := hCel.set (y' := .string F1) (.bool nb) (.string F2)
    refine bodyPost_ret (by simp [results, Tryz.results57, hCf.c0, hCf.c1, hCf.c2, go_sem]; try rfl) rfl ?_
    rw [HP.out, if_neg hl]
    exact ⟨rfl, (((hBF.setCell (p := ⟨w.heap.size + 1 + 1, 0, none⟩) (by show _ ≤ w.heap.size + 1 + 1; omega) _).setCell (p := ⟨w.heap.size + 1 + 1, 1, none⟩) (by show _ ≤ w.heap.size + 1 + 1; omega) _).setCell (p := ⟨w.heap.size + 1 + 1, 2, none⟩) (by show _ ≤ w.heap.size + 1 + 1; omega) _)⟩
end Go.Proofs.YtfgmjdhoeilhcaaGreatDoor
