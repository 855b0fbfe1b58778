/- The reference's reader of a quoted text, on lists of bytes: it reads what Quote writes; it answers as Unquote. No program in sight. -/
import Derived.Test.YtbpfbceagdikoaaDoorPlain3
namespace Go.Proofs.YtbpfbceagdikoaaDoor
set_option linter.unusedVariables false

/-- the value of a hexadecimal digit, or -1 -/
def digB (c : UInt8) : Int := if 48 ≤ c.toNat ∧ c.toNat ≤ 57 then (c.toNat : Int) - 48 else if 97 ≤ c.toNat ∧ c.toNat ≤ 102 then (c.toNat : Int) - 87 else -1
theorem digB_bd (c : UInt8) : -1 ≤ digB c ∧ digB c ≤ 15 := by unfold digB; split <;> (try split) <;> omega
def hexAt (l : Bs) : Prop := l.headD 0 = 37 ∧ 3 < l.length ∧ l.getD 1 0 = 120 ∧ 0 ≤ digB (l.getD 2 0) ∧ 0 ≤ digB (l.getD 3 0)
instance (l : Bs) : Decidable (hexAt l) := by unfold hexAt; infer_instance
/-- what the reference reads first: a byte, and how many bytes it stood in -/
def stepR (l : Bs) : UInt8 × Nat :=
  if hexAt l then (UInt8.ofNat (16 * digB (l.getD 2 0) + digB (l.getD 3 0)).toNat, 4)
  else if l.headD 0 = 37 ∧ 1 < l.length then (l.getD 1 0, 2)
  else (l.headD 0, 1)
theorem stepR_pos (l : Bs) : 1 ≤ (stepR l).2 := by unfold stepR; split <;> (try split) <;> simp
def refT : Nat → Bs → Bs
  | 0, _ => []
  | k + 1, l => if l = [] then [] else (stepR l).1 :: refT k (l.drop (stepR l).2)
theorem refT_enough : ∀ (k : Nat) (l : Bs), l.length ≤ k → refT k l = refT l.length l
  | 0, l, h => by have : l = [] := List.eq_nil_of_length_eq_zero (by omega); subst this; rfl
  | k + 1, [], h => rfl
  | k + 1, x :: r, h => by
    show (if x :: r = [] then [] else (stepR (x :: r)).1 :: refT k ((x :: r).drop (stepR (x :: r)).2)) = (if x :: r = [] then [] else (stepR (x :: r)).1 :: refT r.length ((x :: r).drop (stepR (x :: r)).2))
    have hp := stepR_pos (x :: r)
    simp only [List.length_cons] at h
    rw [refT_enough k _ (by simp; omega), refT_enough r.length _ (by simp; omega)]
def refR (l : Bs) : Bs := refT l.length l
theorem refR_nil : refR [] = [] := rfl
theorem refR_step (l : Bs) (h : l ≠ []) : refR l = (stepR l).1 :: refR (l.drop (stepR l).2) := by
  have hl := List.length_pos_iff.2 h
  have hp := stepR_pos l
  unfold refR
  obtain ⟨k, hk⟩ : ∃ k, l.length = k + 1 := ⟨l.length - 1, by omega⟩
  rw [hk]
  show (if l = [] then [] else (stepR l).1 :: refT k (l.drop (stepR l).2)) = _
  rw [if_neg h, refT_enough k _ (by simp; omega)]
theorem refR_plain (c : UInt8) (r : Bs) (h : c ≠ 37) : refR (c :: r) = c :: refR r := by
  have e : stepR (c :: r) = (c, 1) := by
    unfold stepR
    rw [if_neg (fun hh => h hh.1), if_neg (fun hh => h hh.1)]; rfl
  rw [refR_step _ (by simp), e]; rfl
theorem refR_app : ∀ (t r : Bs), (∀ c ∈ t, c ≠ 37) → refR (t ++ r) = t ++ refR r
  | [], r, _ => rfl
  | c :: t, r, h => by
    rw [List.cons_append, refR_plain c _ (h c List.mem_cons_self), refR_app t r (fun d hd => h d (List.mem_cons_of_mem _ hd)), List.cons_append]

theorem point_cont (l : Bs) (k : Nat) (h1 : 1 ≤ k) (h2 : k < (point l 0).2) : cont l k = true := by
  unfold point at h2
  split at h2
  · simp only at h2; omega
  split at h2
  · simp only at h2; omega
  split at h2
  · rename_i hc; simp only at h2
    obtain rfl : k = 1 := by omega
    exact hc.2.2.1
  split at h2
  · rename_i hc; simp only at h2
    have : k = 1 ∨ k = 2 := by omega
    rcases this with rfl | rfl
    · exact hc.2.2.1
    · exact hc.2.2.2.1
  split at h2
  · rename_i hc; simp only at h2
    have : k = 1 ∨ k = 2 ∨ k = 3 := by omega
    rcases this with rfl | rfl | rfl
    · exact hc.2.2.1
    · exact hc.2.2.2.1
    · exact hc.2.2.2.2.1
  · simp only at h2; omega
/-- the bytes of a letter behind its first -/
theorem valid_tail {t : Bs} (h : validL t = true) : ∀ c ∈ t.tail, 128 ≤ c.toNat := by
  intro c hc
  obtain ⟨k, hk⟩ := List.getElem?_of_mem hc
  rw [List.getElem?_tail] at hk
  have hlt : k + 1 < t.length := (List.getElem?_eq_some_iff.1 hk).1
  have := point_cont t (k + 1) (by omega) (by rw [(valid_ok h).2]; exact hlt)
  rw [cont_iff] at this
  have e : atB t (k + 1) = c.toNat := by unfold atB; rw [hk]; rfl
  omega
theorem hexd_dig : ∀ n : Nat, n < 16 → digB (hexd n) = n := by decide +kernel

theorem refR_unit (t r : Bs) (h : PieceOk t) : refR (unitP t ++ r) = t ++ refR r := by
  have hex : ∀ c : UInt8, refR (hexL c ++ r) = c :: refR r := fun c => by
    have hlt := UInt8.toNat_lt c
    have d1 := hexd_dig (c.toNat / 16) (by omega)
    have d2 := hexd_dig (c.toNat % 16) (by omega)
    have e : stepR (hexL c ++ r) = (c, 4) := by
      unfold stepR
      have e2 : (hexL c ++ r).getD 2 0 = hexd (c.toNat / 16) := rfl
      have e3 : (hexL c ++ r).getD 3 0 = hexd (c.toNat % 16) := rfl
      have hx : hexAt (hexL c ++ r) := ⟨rfl, by simp [hexL], rfl, by rw [e2, d1]; omega, by rw [e3, d2]; omega⟩
      rw [if_pos hx, e2, e3, d1, d2]
      congr 1
      have : (16 * ((c.toNat / 16 : Nat) : Int) + ((c.toNat % 16 : Nat) : Int)).toNat = c.toNat := by omega
      rw [this]; simp
    rw [refR_step _ (by simp [hexL]), e]; rfl
  rcases h with hv | ⟨c, rfl, hv⟩
  · have hne := valid_ne hv
    by_cases hc : ctlB (point t 0).1 = true
    · have e : unitP t = hexL (t.headD 0) := by unfold unitP; rw [if_pos (Or.inr hc)]
      have hsm : (point t 0).1 < 128 := by
        unfold ctlB at hc; have := of_decide_eq_true hc; omega
      have h1 := (valid_small hv hsm).1
      rw [e, hex]
      conv => rhs; rw [h1]
      rfl
    · have hcf : ¬ (validL t = false ∨ ctlB (point t 0).1 = true) := by
        rintro (hh | hh)
        · rw [hv] at hh; cases hh
        · exact hc hh
      have ht := valid_tail hv
      obtain ⟨a, b, rfl⟩ : ∃ a b, t = a :: b := by
        cases t with
        | nil => exact absurd rfl hne
        | cons a b => exact ⟨a, b, rfl⟩
      have hb : ∀ c ∈ b, c ≠ 37 := fun c hc e => by have := ht c hc; rw [e] at this; exact absurd this (by decide)
      by_cases hm : clsOf (point (a :: b) 0).1 = 4 ∨ clsOf (point (a :: b) 0).1 = 5
      · have e : unitP (a :: b) = 37 :: a :: b := by unfold unitP; rw [if_neg hcf, if_pos hm]
        have hx : a ≠ 120 := by
          intro hx
          subst hx
          have hp := (valid_low hv (show (120 : UInt8).toNat < 128 by decide)).2
          rw [hp, List.headD_cons] at hm
          exact absurd hm (by decide)
        have e2 : stepR (37 :: a :: b ++ r) = (a, 2) := by
          unfold stepR
          rw [if_neg (fun hh => hx hh.2.2.1), if_pos ⟨rfl, by simp⟩]; rfl
        rw [e, refR_step _ (by simp), e2]
        show a :: refR (b ++ r) = _
        rw [refR_app b r hb]; rfl
      · have e : unitP (a :: b) = a :: b := by unfold unitP; rw [if_neg hcf, if_neg hm]
        have hx : a ≠ 37 := by
          intro hx
          subst hx
          have hp := (valid_low hv (show (37 : UInt8).toNat < 128 by decide)).2
          rw [hp, List.headD_cons] at hm
          exact absurd hm (by decide)
        rw [e]
        exact refR_app _ r (fun c hc => by
          rcases List.mem_cons.1 hc with rfl | hc
          · exact hx
          · exact hb c hc)
  · have e : unitP [c] = hexL c := by unfold unitP; rw [if_pos (Or.inl hv)]; rfl
    rw [e, hex]; rfl
theorem refR_back : ∀ ps : List Bs, (∀ p ∈ ps, PieceOk p) → refR (ps.flatMap unitP) = ps.flatten
  | [], _ => rfl
  | t :: r, h => by
    rw [List.flatMap_cons, refR_unit t _ (h t List.mem_cons_self), refR_back r (fun p hp => h p (List.mem_cons_of_mem _ hp)), List.flatten_cons]
theorem refR_quote (n : Bs) : refR (quoteP n) = n := by
  have := refR_back (pieces n) (pieces_ok n)
  rwa [pieces_flat] at this
/-- what the reference's Unquote returns -/
def refU (l : Bs) : Option Bs := if l = [37, 48] then some [] else if refR l = [] ∨ quoteL (refR l) ≠ l then none else some (refR l)
theorem refU_eq (l : Bs) : refU l = unquoteL l := by
  unfold refU unquoteL
  by_cases h0 : l = [37, 48]
  · rw [if_pos h0, if_pos h0]
  · rw [if_neg h0, if_neg h0]
    by_cases h : ∃ n, n ≠ [] ∧ quoteL n = l
    · obtain ⟨n, hn, rfl⟩ := h
      have hq : quoteL n = quoteP n := by unfold quoteL; rw [if_neg hn]
      have e1 : refR (quoteL n) = n := by rw [hq]; exact refR_quote n
      have e2 : readF (quoteL n) = some n := by rw [hq]; exact read_quote n
      rw [e1, e2, if_neg (by simp [hn])]
      simp
    · rw [if_pos]
      · cases hr : readF l with
        | none => rfl
        | some n =>
          show none = if quoteL n = l then some n else none
          rw [if_neg]
          intro e
          by_cases hn : n = []
          · subst hn; exact h0 e.symm
          · exact h ⟨n, hn, e⟩
      · by_cases hr : refR l = []
        · exact Or.inl hr
        · exact Or.inr fun e => h ⟨_, hr, e⟩
end Go.Proofs.YtbpfbceagdikoaaDoor
