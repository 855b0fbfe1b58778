/- What Parse answers, by the digits that come first. -/
import Derived.Test.YtfgmjdhoeilhcaaGreatDoorPf
namespace Go.Proofs.YtfgmjdhoeilhcaaGreatDoor
open Go.RowKit
set_option linter.unusedVariables false

def refR (l : Bs) : Bs × Nat :=
  match tlD (ratS l).2 with
  | [] => if hdD (ratS l).2 = [] then ([], 3) else if 900 < l.length then ([], 2) else ratMake (ratS l).1 (natB (hdD (ratS l).2)) [49]
  | c :: t =>
    if (c = 47 ∨ c = 46) ∧ hdD (ratS l).2 ≠ [] ∧ t ≠ [] ∧ tlD t = [] then
      (if c = 47 then (if natB t = [48] then ([], 3) else if 900 < l.length then ([], 2) else ratMake (ratS l).1 (natB (hdD (ratS l).2)) (natB t))
      else if 900 < l.length then ([], 2) else ratMake (ratS l).1 (natB (hdD (ratS l).2 ++ t)) (49 :: List.replicate t.length 48))
    else ([], 3)
def refC (len : Nat) (neg : Bool) (P : Bs) (c : UInt8) (t : Bs) : Bs × Nat :=
  if (c = 47 ∨ c = 46) ∧ P ≠ [] ∧ t ≠ [] ∧ tlD t = [] then
    (if c = 47 then (if natB t = [48] then ([], 3) else if 900 < len then ([], 2) else ratMake neg (natB P) (natB t))
    else if 900 < len then ([], 2) else ratMake neg (natB (P ++ t)) (49 :: List.replicate t.length 48))
  else ([], 3)
theorem digB_iff (l : Bs) : digB l = true ↔ l ≠ [] ∧ ∀ c ∈ l, isDig c = true := by
  unfold digB
  cases l <;> simp
theorem tlD_nil {l : Bs} : tlD l = [] ↔ ∀ c ∈ l, isDig c = true := dw_nil
theorem tl_of : ∀ {a : Bs} {x : UInt8} {b : Bs}, (∀ c ∈ a, isDig c = true) → isDig x = false → tlD (a ++ x :: b) = x :: b
  | [], x, b, _, hx => by unfold tlD; rw [List.nil_append, List.dropWhile_cons, if_neg (by simp [hx])]
  | y :: r, x, b, h, hx => by
    have := tl_of (a := r) (b := b) (fun c hc => h c (by simp [hc])) hx
    unfold tlD at this ⊢
    rw [List.cons_append, List.dropWhile_cons, if_pos (h y (by simp)), this]
theorem no_cut {c : UInt8} {l : Bs} (hc : isDig c = false) (h : ∀ x ∈ l, isDig x = true) : c ∉ l := fun hm => by rw [h c hm] at hc; cases hc
theorem natB_one : natB [49] = [49] := rfl
theorem natB_ten (n : Nat) : natB (49 :: List.replicate n 48) = 49 :: List.replicate n 48 := natB_stop (Or.inr (by decide))
theorem digB_ten (n : Nat) : digB (49 :: List.replicate n 48) = true := (digB_iff _).2 ⟨by simp, fun c hc => by
  rcases List.mem_cons.1 hc with rfl | hc
  · rfl
  · rw [List.eq_of_mem_replicate hc]; rfl⟩
theorem digB_no {l : Bs} {c : UInt8} (hm : c ∈ l) (hc : isDig c = false) : digB l = false := by
  apply Bool.eq_false_iff.2
  intro h
  rw [((digB_iff l).1 h).2 c hm] at hc
  cases hc
theorem parF_no1 {len : Nat} {neg : Bool} {n d : Bs} (h : digB n = false) : parF len neg n d = ([], 3) := by unfold parF; rw [if_neg]; rw [h]; simp
theorem parse_ref (l : Bs) : parseR l = refR l := by
  unfold parseR refR
  generalize (ratS l).1 = neg
  generalize (ratS l).2 = R
  have hR := hd_tl R
  have hP := hdD_dig R
  have hT : ∀ {x r}, tlD R = x :: r → isDig x = false := fun h => dw_head h
  have hcut : ∀ {x : UInt8} {a b : Bs}, isDig x = false → cutB x R = some (a, b) → digB a = true → tlD R = x :: b := fun hx h hd => by
    obtain ⟨e, _⟩ := cutB_some.1 h
    rw [e]
    exact tl_of ((digB_iff _).1 hd).2 hx
  generalize hPe : hdD R = P at *
  cases hTe : tlD R with
  | nil =>
    rw [hTe, List.append_nil] at hR
    rw [hR] at *
    rw [cutB_none.2 (no_cut (by decide) hP), cutB_none.2 (no_cut (by decide) hP)]
    simp only []
    by_cases h0 : P = []
    · rw [if_pos h0, h0]; rfl
    · rw [if_neg h0]
      unfold parF
      rw [if_pos ⟨(digB_iff _).2 ⟨h0, hP⟩, rfl, by rw [natB_one]; decide⟩, natB_one]
  | cons c t =>
    have hc := hT hTe
    rw [hTe] at hR hcut
    show _ = refC l.length neg P c t
    by_cases h47 : c = 47
    · subst h47
      rw [cutB_some.2 ⟨hR, no_cut (by decide) hP⟩]
      show parF l.length neg P t = _
      unfold parF refC
      by_cases h1 : P ≠ [] ∧ t ≠ [] ∧ tlD t = []
      · obtain ⟨a1, a2, a3⟩ := h1
        rw [if_pos (c := (47 = (47 : UInt8) ∨ 47 = (46 : UInt8)) ∧ P ≠ [] ∧ t ≠ [] ∧ tlD t = []) ⟨Or.inl rfl, a1, a2, a3⟩, if_pos rfl]
        by_cases hz : natB t = [48]
        · rw [if_neg (fun h => h.2.2 hz), if_pos hz]
        · rw [if_pos ⟨(digB_iff _).2 ⟨a1, hP⟩, (digB_iff _).2 ⟨a2, tlD_nil.1 a3⟩, hz⟩, if_neg hz]
      · rw [if_neg (c := (47 = (47 : UInt8) ∨ 47 = (46 : UInt8)) ∧ P ≠ [] ∧ t ≠ [] ∧ tlD t = []) (fun h => h1 h.2), if_neg]
        rintro ⟨b1, b2, _⟩
        exact h1 ⟨((digB_iff _).1 b1).1, ((digB_iff _).1 b2).1, tlD_nil.2 ((digB_iff _).1 b2).2⟩
    · by_cases h46 : c = 46
      · subst h46
        cases h : cutB 47 R with
        | some p =>
          have hd : digB p.1 = false := by
            apply Bool.eq_false_iff.2
            intro hd
            have := hcut (x := 47) (by decide) (show cutB 47 R = some (p.1, p.2) by rw [h]) hd
            simp at this
          have hm : (47 : UInt8) ∈ t := by
            obtain ⟨e, _⟩ := cutB_some.1 (show cutB 47 R = some (p.1, p.2) by rw [h])
            have : (47 : UInt8) ∈ R := by rw [e]; simp
            rw [hR] at this
            rcases List.mem_append.1 this with h' | h'
            · exact absurd h' (no_cut (by decide) hP)
            · simpa using h'
          simp only []
          unfold refC
          rw [parF_no1 hd, if_neg]
          rintro ⟨_, _, _, h4⟩
          have := tlD_nil.1 h4 47 hm
          exact absurd this (by decide)
        | none =>
          rw [cutB_some.2 ⟨hR, no_cut (by decide) hP⟩]
          show (if digB P = true ∧ digB t = true then parF l.length neg (P ++ t) (49 :: List.replicate t.length 48) else ([], 3)) = _
          unfold refC
          by_cases h1 : P ≠ [] ∧ t ≠ [] ∧ tlD t = []
          · obtain ⟨a1, a2, a3⟩ := h1
            have ht := tlD_nil.1 a3
            rw [if_pos ⟨(digB_iff _).2 ⟨a1, hP⟩, (digB_iff _).2 ⟨a2, ht⟩⟩]
            rw [if_pos (c := (46 = (47 : UInt8) ∨ 46 = (46 : UInt8)) ∧ P ≠ [] ∧ t ≠ [] ∧ tlD t = []) ⟨Or.inr rfl, a1, a2, a3⟩, if_neg (by decide)]
            unfold parF
            rw [if_pos, natB_ten]
            refine ⟨(digB_iff _).2 ⟨by simp [a1], fun x hx => ?_⟩, digB_ten _, by rw [natB_ten]; simp⟩
            rcases List.mem_append.1 hx with hx | hx
            · exact hP x hx
            · exact ht x hx
          · rw [if_neg (c := (46 = (47 : UInt8) ∨ 46 = (46 : UInt8)) ∧ P ≠ [] ∧ t ≠ [] ∧ tlD t = []) (fun h => h1 h.2), if_neg]
            rintro ⟨b1, b2⟩
            exact h1 ⟨((digB_iff _).1 b1).1, ((digB_iff _).1 b2).1, tlD_nil.2 ((digB_iff _).1 b2).2⟩
      · unfold refC
        rw [if_neg (c := (c = 47 ∨ c = 46) ∧ P ≠ [] ∧ t ≠ [] ∧ tlD t = []) (fun h => by rcases h.1 with h | h; exact h47 h; exact h46 h)]
        cases h : cutB 47 R with
        | some p =>
          simp only []
          apply parF_no1
          apply Bool.eq_false_iff.2
          intro hd
          have := hcut (x := 47) (by decide) (show cutB 47 R = some (p.1, p.2) by rw [h]) hd
          simp at this
          exact h47 this.1
        | none =>
          simp only []
          cases h2 : cutB 46 R with
          | some p =>
            simp only []
            rw [if_neg]
            rintro ⟨hd, _⟩
            have := hcut (x := 46) (by decide) (show cutB 46 R = some (p.1, p.2) by rw [h2]) hd
            simp at this
            exact h46 this.1
          | none =>
            simp only []
            exact parF_no1 (digB_no (c := c) (by rw [hR]; simp) hc)
theorem natB_nl (l : Bs) : (natB l).length ≤ l.length + 1 := natB_len l
theorem drop_hd (R : Bs) : R.drop (hdD R).length = tlD R := by
  have h := hd_tl R
  generalize hdD R = P at h ⊢
  generalize tlD R = T at h ⊢
  subst h
  simp
theorem take_hd (R : Bs) : R.take (hdD R).length = hdD R := by
  have h := hd_tl R
  generalize hdD R = P at h ⊢
  generalize tlD R = T at h
  subst h
  simp
theorem rep_more (n : Nat) : (49 :: List.replicate n 48 : Bs) ++ [48] = 49 :: List.replicate (n + 1) 48 := by rw [List.cons_append, List.replicate_succ']
end Go.Proofs.YtfgmjdhoeilhcaaGreatDoor
