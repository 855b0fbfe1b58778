/- Plain laws of quoting: what Quote writes is read back; the pieces of a quoted text. No program in sight. -/
import Derived.Test.YtbpfbceagdikoaaDoorPlain2
namespace Go.Proofs.YtbpfbceagdikoaaDoor
set_option linter.unusedVariables false

/-- a piece: a letter, or one stray byte -/
def PieceOk (t : Bs) : Prop := validL t = true ∨ ∃ c, t = [c] ∧ validL t = false
theorem pieces_ok (l : Bs) : ∀ p ∈ pieces l, PieceOk p := by
  induction l using pieces_ind with
  | h0 => intro p hp; rw [pieces_nil] at hp; cases hp
  | h1 l hne ih =>
    intro p hp
    rw [pieces_step l hne] at hp
    rcases List.mem_cons.1 hp with rfl | hp
    · have h := (piece_first l hne).1
      cases hk : okL l with
      | true => left; rw [h, hk]
      | false =>
        right
        have hz : psz l = 1 := by
          unfold psz; unfold okL at hk
          have : ¬ 0 < (point l 0).2 := of_decide_eq_false hk
          omega
        obtain ⟨c, r, rfl⟩ : ∃ c r, l = c :: r := by
          cases l with
          | nil => exact absurd rfl hne
          | cons c r => exact ⟨c, r, rfl⟩
        exact ⟨c, by rw [hz]; rfl, by rw [h, hk]⟩
    · exact ih p hp

theorem valid_ne {t : Bs} (h : validL t = true) : t ≠ [] := by
  intro e; subst e; exact absurd h (by decide)
theorem atB_app {t r : Bs} {k : Nat} (h : k < t.length) : atB (t ++ r) k = atB t k := by
  unfold atB; rw [List.getElem?_append_left h]
theorem point_app {t : Bs} (r : Bs) (h : validL t = true) : point (t ++ r) 0 = point t 0 := by
  obtain ⟨h1, h2⟩ := valid_ok h
  have hp : 0 < (point t 0).2 := of_decide_eq_true h1
  exact point_pre (t ++ r) t (fun k hk => atB_app (by omega)) (by rw [List.length_append]; omega) hp (by omega)
theorem okL_app {t : Bs} (r : Bs) (h : validL t = true) : okL (t ++ r) = true := by
  unfold okL; rw [point_app r h]; exact (valid_ok h).1
theorem psz_app {t : Bs} (r : Bs) (h : validL t = true) : psz (t ++ r) = t.length := by
  obtain ⟨h1, h2⟩ := valid_ok h
  have hp : 0 < (point t 0).2 := of_decide_eq_true h1
  unfold psz; rw [point_app r h, h2]; omega
theorem pieces_app {t : Bs} (r : Bs) (h : validL t = true) : pieces (t ++ r) = t :: pieces r := by
  rw [pieces_step _ (by simp [valid_ne h]), psz_app r h, List.take_left, List.drop_left]

theorem hex_back : ∀ n : Nat, n < 256 → hex2 (hexd (n / 16)) (hexd (n % 16)) = some n := by decide +kernel
theorem head_app {t : Bs} (r : Bs) (h : t ≠ []) : (t ++ r).headD 0 = t.headD 0 := by
  cases t with
  | nil => exact absurd rfl h
  | cons a b => rfl
theorem at_head {t : Bs} (h : t ≠ []) : atB t 0 = (t.headD 0).toNat := by
  cases t with
  | nil => exact absurd rfl h
  | cons a b => rfl
/-- a letter that begins with a byte of ASCII is that byte -/
theorem valid_low {t : Bs} (h : validL t = true) (hb : (t.headD 0).toNat < 128) : t = [t.headD 0] ∧ (point t 0).1 = (t.headD 0).toNat := by
  have hne := valid_ne h
  obtain ⟨h1, h2⟩ := valid_ok h
  have hl : ¬ t.length ≤ 0 := by have := List.length_pos_iff.2 hne; omega
  have e : point t 0 = (atB t 0, 1) := by unfold point; rw [if_neg hl, if_pos (by rw [at_head hne]; exact hb)]
  rw [e] at h2
  have h2' : t.length = 1 := h2.symm
  refine ⟨?_, by rw [e, at_head hne]⟩
  cases t with
  | nil => exact absurd rfl hne
  | cons a b => simp at h2'; subst h2'; rfl
/-- a letter whose code point is below 128 is one byte -/
theorem valid_small {t : Bs} (h : validL t = true) (hb : (point t 0).1 < 128) : t = [t.headD 0] ∧ (point t 0).1 = (t.headD 0).toNat := by
  apply valid_low h
  have hne := valid_ne h
  have hl : ¬ t.length ≤ 0 := by have := List.length_pos_iff.2 hne; omega
  rcases Nat.lt_or_ge (t.headD 0).toNat 128 with hh | hh
  · exact hh
  exfalso
  rw [← at_head hne] at hh
  have ho : 0 < (point t 0).2 := of_decide_eq_true (valid_ok h).1
  unfold point at hb ho
  rw [if_neg hl, if_neg (by omega)] at hb ho
  split at hb
  · simp only at hb; omega
  · rename_i n1
    rw [if_neg n1] at ho
    split at hb
    · simp only at hb; omega
    · rename_i n2
      rw [if_neg n2] at ho
      split at hb
      · simp only at hb; omega
      · rename_i n3
        rw [if_neg n3] at ho
        exact absurd ho (by decide)

theorem unitT_back (t r : Bs) (h : PieceOk t) : unitT (unitP t ++ r) = (t, (unitP t).length) := by
  have hex : ∀ c : UInt8, unitT (hexL c ++ r) = ([c], 4) := fun c => by
    have hb := hex_back c.toNat (UInt8.toNat_lt c)
    unfold unitT hexL
    rw [if_neg (by simp)]
    have e2 : ([37, 120, hexd (c.toNat / 16), hexd (c.toNat % 16)] ++ r).getD 2 0 = hexd (c.toNat / 16) := rfl
    have e3 : ([37, 120, hexd (c.toNat / 16), hexd (c.toNat % 16)] ++ r).getD 3 0 = hexd (c.toNat % 16) := rfl
    rw [e2, e3, hb, if_pos ⟨by simp, rfl, rfl⟩]
    simp
  rcases h with hv | ⟨c, rfl, hv⟩
  · by_cases hc : ctlB (point t 0).1 = true
    · have e : unitP t = hexL (t.headD 0) := by unfold unitP; rw [if_pos (Or.inr hc)]
      have hsm : (point t 0).1 < 128 := by
        unfold ctlB at hc; have := of_decide_eq_true hc; omega
      have h1 := (valid_small hv hsm).1
      rw [e, hex, ← h1]; rfl
    · have hcf : ¬ (validL t = false ∨ ctlB (point t 0).1 = true) := by
        rintro (hh | hh)
        · rw [hv] at hh; cases hh
        · exact hc hh
      by_cases hm : clsOf (point t 0).1 = 4 ∨ clsOf (point t 0).1 = 5
      · have e : unitP t = 37 :: t := by unfold unitP; rw [if_neg hcf, if_pos hm]
        have hne := valid_ne hv
        have hx : t.headD 0 ≠ 120 := by
          intro hx
          have hp := (valid_low hv (by rw [hx]; decide)).2
          rw [hx] at hp
          rw [hp] at hm
          exact absurd hm (by decide)
        have hl := List.length_pos_iff.2 hne
        rw [e]
        unfold unitT
        have hg : (37 :: t ++ r).getD 1 0 = t.headD 0 := by
          cases t with
          | nil => exact absurd rfl hne
          | cons a b => rfl
        rw [if_neg (by simp), if_neg (by rw [hg]; exact fun hh => hx hh.2.1), if_neg (by simp; omega)]
        have hd : (37 :: t ++ r).drop 1 = t ++ r := rfl
        rw [hd, psz_app r hv, List.take_left, List.length_cons, Nat.add_comm]
      · have e : unitP t = t := by unfold unitP; rw [if_neg hcf, if_neg hm]
        have hne := valid_ne hv
        have hx : t.headD 0 ≠ 37 := by
          intro hx
          have hp := (valid_low hv (by rw [hx]; decide)).2
          rw [hx] at hp
          rw [hp] at hm
          exact absurd hm (by decide)
        rw [e]
        unfold unitT
        rw [if_pos (by rw [head_app r hne]; exact hx), psz_app r hv, List.take_left]
  · have e : unitP [c] = hexL c := by unfold unitP; rw [if_pos (Or.inl hv)]; rfl
    rw [e, hex]; rfl

theorem readF_back : ∀ ps : List Bs, (∀ p ∈ ps, PieceOk p) → readF (ps.flatMap unitP) = some ps.flatten
  | [], _ => rfl
  | t :: r, h => by
    have ht := h t List.mem_cons_self
    have hu := unitT_back t (r.flatMap unitP) ht
    have hpos : 0 < (unitP t).length := by
      rcases ht with hv | ⟨c, rfl, hv⟩
      · have := List.length_pos_iff.2 (valid_ne hv)
        unfold unitP; split
        · simp [hexL]
        · split
          · simp
          · exact this
      · unfold unitP; rw [if_pos (Or.inl hv)]; simp [hexL]
    rw [List.flatMap_cons, readF_step _ (by intro e; have := congrArg List.length e; simp only [List.length_append, List.length_nil] at this; omega), hu]
    simp only
    rw [if_neg (by omega), List.drop_left, readF_back r (fun p hp => h p (List.mem_cons_of_mem _ hp))]
    rfl
theorem read_quote (n : Bs) : readF (quoteP n) = some n := by
  have := readF_back (pieces n) (pieces_ok n)
  rwa [pieces_flat] at this
theorem quote_not {n : Bs} (h : n ≠ []) : quoteL n ≠ [37, 48] := by
  unfold quoteL
  rw [if_neg h]
  intro e
  have h1 := read_quote n
  rw [e] at h1
  have h2 : readF [37, 48] = some [48] := by decide +kernel
  rw [h2] at h1
  obtain rfl := Option.some.inj h1
  exact absurd e (by decide +kernel)
theorem unquote_quote (n : Bs) : unquoteL (quoteL n) = some n := by
  by_cases h : n = []
  · subst h; rfl
  · unfold unquoteL
    rw [if_neg (quote_not h)]
    have : readF (quoteL n) = some n := by unfold quoteL; rw [if_neg h]; exact read_quote n
    rw [this]
    simp
end Go.Proofs.YtbpfbceagdikoaaDoor
