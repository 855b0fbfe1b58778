/- The pieces of a quoted text. No program in sight. -/
import Derived.Test.YtbpfbceagdikoaaDoorPlain4
namespace Go.Proofs.YtbpfbceagdikoaaDoor
set_option linter.unusedVariables false

/-- the pieces of what Quote writes for one piece -/
def unitL (t : Bs) : List Bs :=
  if validL t = false ∨ ctlB (point t 0).1 = true then [[37], [120], [hexd ((t.headD 0).toNat / 16)], [hexd ((t.headD 0).toNat % 16)]]
  else if clsOf (point t 0).1 = 4 ∨ clsOf (point t 0).1 = 5 then [[37], t] else [t]
theorem valid_ascii (c : UInt8) (h : c.toNat < 128) : validL [c] = true := by
  have e : point [c] 0 = (c.toNat, 1) := by
    unfold point
    have : atB [c] 0 = c.toNat := rfl
    rw [if_neg (by simp), this, if_pos h]
  unfold validL okL
  rw [e]; rfl
theorem hexd_low : ∀ n : Nat, n < 16 → (hexd n).toNat < 128 := by decide +kernel
theorem unitL_pieces (t r : Bs) (h : PieceOk t) : pieces (unitP t ++ r) = unitL t ++ pieces r := by
  unfold unitP unitL
  by_cases h1 : validL t = false ∨ ctlB (point t 0).1 = true
  · rw [if_pos h1, if_pos h1]
    have hlt := UInt8.toNat_lt (t.headD 0)
    have e1 := valid_ascii 37 (by decide)
    have e2 := valid_ascii 120 (by decide)
    have e3 := valid_ascii (hexd ((t.headD 0).toNat / 16)) (hexd_low _ (by omega))
    have e4 := valid_ascii (hexd ((t.headD 0).toNat % 16)) (hexd_low _ (by omega))
    have p1 := pieces_app ([120] ++ ([hexd ((t.headD 0).toNat / 16)] ++ ([hexd ((t.headD 0).toNat % 16)] ++ r))) e1
    rw [pieces_app _ e2, pieces_app _ e3, pieces_app _ e4] at p1
    exact p1
  · rw [if_neg h1, if_neg h1]
    have hv : validL t = true := by
      cases hh : validL t with
      | true => rfl
      | false => exact absurd (Or.inl hh) h1
    by_cases h2 : clsOf (point t 0).1 = 4 ∨ clsOf (point t 0).1 = 5
    · rw [if_pos h2, if_pos h2]
      have p1 := pieces_app (t ++ r) (valid_ascii 37 (by decide))
      rw [pieces_app r hv] at p1
      exact p1
    · rw [if_neg h2, if_neg h2]
      exact pieces_app r hv
theorem unitL_valid (t : Bs) (h : PieceOk t) : ∀ p ∈ unitL t, validL p = true := by
  unfold unitL
  have hlt := UInt8.toNat_lt (t.headD 0)
  intro p hp
  split at hp
  · simp only [List.mem_cons, List.mem_nil_iff, or_false] at hp
    rcases hp with rfl | rfl | rfl | rfl
    · exact valid_ascii 37 (by decide)
    · exact valid_ascii 120 (by decide)
    · exact valid_ascii _ (hexd_low _ (by omega))
    · exact valid_ascii _ (hexd_low _ (by omega))
  · rename_i h1
    have hv : validL t = true := by
      cases hh : validL t with
      | true => rfl
      | false => exact absurd (Or.inl hh) h1
    split at hp
    · simp only [List.mem_cons, List.mem_nil_iff, or_false] at hp
      rcases hp with rfl | rfl
      · exact valid_ascii 37 (by decide)
      · exact hv
    · simp only [List.mem_cons, List.mem_nil_iff, or_false] at hp
      subst hp; exact hv
theorem units_pieces : ∀ ps : List Bs, (∀ p ∈ ps, PieceOk p) → pieces (ps.flatMap unitP) = ps.flatMap unitL
  | [], _ => rfl
  | t :: r, h => by
    rw [List.flatMap_cons, List.flatMap_cons, unitL_pieces t _ (h t List.mem_cons_self), units_pieces r (fun p hp => h p (List.mem_cons_of_mem _ hp))]
theorem quoteP_pieces (n : Bs) : pieces (quoteP n) = (pieces n).flatMap unitL := units_pieces _ (pieces_ok n)
theorem stray_all {l : List Bs} (h : ∀ p ∈ l, validL p = true) : strayAt l 0 = none := stray_none l 0 h
/-- what Split answers of a quoted text that is not too long -/
theorem quote_split {n : Bs} (hn : n ≠ []) (hl : (quoteL n).length ≤ 16384) : splitL (quoteL n) = (pieces n).flatMap unitL ∧ splitAt (quoteL n) = 0 ∧ splitE (quoteL n) = 0 := by
  have hq : quoteL n = quoteP n := by unfold quoteL; rw [if_neg hn]
  have e : splitR (quoteL n) = ((pieces n).flatMap unitL, 0, 0) := by
    unfold splitR
    rw [if_neg (by omega), hq, quoteP_pieces, stray_all]
    intro p hp
    obtain ⟨t, ht, hp⟩ := List.mem_flatMap.1 hp
    exact unitL_valid t (pieces_ok n t ht) p hp
  exact ⟨by unfold splitL; rw [e], by unfold splitAt; rw [e], by unfold splitE; rw [e]⟩
/-- a piece of class 4 or 5 that is no control character begins with a byte that is at least 32 -/
theorem head_ge {t : Bs} (hv : validL t = true) (hc : ¬ ctlB (point t 0).1 = true) : 32 ≤ (t.headD 0).toNat ∧ (t.headD 0).toNat ≠ 127 := by
  rcases Nat.lt_or_ge (t.headD 0).toNat 128 with h | h
  · have := (valid_low hv h).2
    unfold ctlB at hc
    rw [decide_eq_true_eq, this] at hc
    omega
  · omega
end Go.Proofs.YtbpfbceagdikoaaDoor
