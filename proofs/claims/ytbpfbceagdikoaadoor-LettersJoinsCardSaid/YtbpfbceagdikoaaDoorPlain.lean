/- The plain words of layer 1 (letters), more: what the chapter's functions compute, on lists of bytes; no program in sight. -/
import Derived.Test.YtbpfbceagdikoaaDoorA
namespace Go.Proofs.YtbpfbceagdikoaaDoor

/-- a letter begins here -/
def okL (l : Bs) : Bool := decide (0 < (point l 0).2)
/-- the size of the first piece -/
def psz (l : Bs) : Nat := max (point l 0).2 1
/-- is it one letter? -/
def validL (l : Bs) : Bool := okL l && decide ((point l 0).2 = l.length)
/-- the pieces of a string -/
def pcs : Nat → Bs → List Bs
  | 0, _ => []
  | k + 1, l => if l = [] then [] else l.take (psz l) :: pcs k (l.drop (psz l))
def pieces (l : Bs) : List Bs := pcs l.length l
theorem atB_drop (l : Bs) (i k : Nat) : atB (l.drop i) k = atB l (i + k) := by unfold atB; rw [List.getElem?_drop]
theorem cont_drop (l : Bs) (i k : Nat) : cont (l.drop i) k = cont l (i + k) := by unfold cont; rw [atB_drop]
theorem point_drop (l : Bs) (i : Nat) : point l i = point (l.drop i) 0 := by
  have e1 : val2 (l.drop i) 0 = val2 l i := by unfold val2; simp only [atB_drop, Nat.zero_add, Nat.add_zero]
  have e2 : val3 (l.drop i) 0 = val3 l i := by unfold val3; simp only [atB_drop, Nat.zero_add, Nat.add_zero]
  have e3 : val4 (l.drop i) 0 = val4 l i := by unfold val4; simp only [atB_drop, Nat.zero_add, Nat.add_zero]
  have e4 : ((l.drop i).length ≤ 0) = (l.length ≤ i) := propext ⟨fun h => by simp at h; omega, fun h => by simp; omega⟩
  unfold point
  rw [e1, e2, e3, atB_drop, cont_drop, cont_drop, cont_drop, Nat.zero_add, Nat.zero_add, Nat.zero_add, Nat.add_zero]
  simp only [e4, Nat.add_zero]
theorem point_le (l : Bs) : (point l 0).2 ≤ l.length ∧ (point l 0).2 ≤ 4 := by
  unfold point
  split
  · simp
  · split
    · simp; omega
    · split
      · rename_i h; have := cont_lt h.2.2.1; simp; omega
      · split
        · rename_i h; have := cont_lt h.2.2.2.1; simp; omega
        · split
          · rename_i h; have := cont_lt h.2.2.2.2.1; simp; omega
          · simp
theorem get_at (s : ByteArray) (k : Nat) : (s.get! k).toNat = atB s.data.toList k := by
  unfold atB
  rcases Nat.lt_or_ge k s.size with h | h
  · rw [Utf8W.get!_of_lt s k h]
    have : s[k]'h = s.data.toList[k]'(by rw [← Lib.size_eq]; exact h) := rfl
    rw [this, List.getElem?_eq_getElem (by rw [← Lib.size_eq]; exact h)]; rfl
  · rw [List.getElem?_eq_none (by rw [← Lib.size_eq]; exact h)]
    cases s with
    | mk d =>
      have : (ByteArray.mk d).get! k = default := by
        show d[k]! = _
        exact getElem!_neg d k (by have : (ByteArray.mk d).size = d.size := rfl; omega)
      rw [this]; rfl
theorem point_1 (l : Bs) : (point l 0).1 ≤ 1114111 := by
  have h0 := atB_lt l 0; have h1 := atB_lt l (0+1); have h2 := atB_lt l (0+2)
  unfold point
  split
  · simp
  · split
    · simp; omega
    · split
      · rename_i h; have := (cont_iff _ _).1 h.2.2.1; simp; unfold val2; omega
      · split
        · rename_i h; have := (cont_iff _ _).1 h.2.2.1; have := (cont_iff _ _).1 h.2.2.2.1; simp; unfold val3; omega
        · split
          · rename_i h; exact h.2.2.2.2.2.2
          · simp
theorem cont_N (l : Bs) (n k : Nat) (hn : l.length = n) : cont l k = true ↔ (k < n ∧ atB l k / 64 = 2) := by
  rw [cont_iff]
  constructor
  · intro h; exact ⟨by rw [← hn]; exact cont_lt ((cont_iff _ _).2 h), by omega⟩
  · intro h; omega
def v2 (b0 b1 : Nat) : Nat := (b0 - 192) * 64 + (b1 - 128)
def v3 (b0 b1 b2 : Nat) : Nat := (b0 - 224) * 4096 + (b1 - 128) * 64 + (b2 - 128)
def v4 (b0 b1 b2 b3 : Nat) : Nat := (b0 - 240) * 262144 + (b1 - 128) * 4096 + (b2 - 128) * 64 + (b3 - 128)
theorem point_cases (l : Bs) (n b0 b1 b2 b3 : Nat) (hn : l.length = n) (hp : 0 < n) (h0 : atB l 0 = b0) (h1 : atB l 1 = b1) (h2 : atB l 2 = b2) (h3 : atB l 3 = b3) :
    (b0 < 128 ∧ point l 0 = (b0, 1)) ∨
    (192 ≤ b0 ∧ b0 < 224 ∧ (1 < n ∧ b1 / 64 = 2) ∧ 128 ≤ v2 b0 b1 ∧ point l 0 = (v2 b0 b1, 2)) ∨
    (224 ≤ b0 ∧ b0 < 240 ∧ (1 < n ∧ b1 / 64 = 2) ∧ (2 < n ∧ b2 / 64 = 2) ∧ 2048 ≤ v3 b0 b1 b2 ∧ (v3 b0 b1 b2 < 55296 ∨ 57343 < v3 b0 b1 b2) ∧ point l 0 = (v3 b0 b1 b2, 3)) ∨
    (240 ≤ b0 ∧ b0 < 248 ∧ (1 < n ∧ b1 / 64 = 2) ∧ (2 < n ∧ b2 / 64 = 2) ∧ (3 < n ∧ b3 / 64 = 2) ∧ 65536 ≤ v4 b0 b1 b2 b3 ∧ v4 b0 b1 b2 b3 ≤ 1114111 ∧ point l 0 = (v4 b0 b1 b2 b3, 4)) ∨
    (¬ b0 < 128 ∧ ¬ (192 ≤ b0 ∧ b0 < 224 ∧ (1 < n ∧ b1 / 64 = 2) ∧ 128 ≤ v2 b0 b1) ∧
      ¬ (224 ≤ b0 ∧ b0 < 240 ∧ (1 < n ∧ b1 / 64 = 2) ∧ (2 < n ∧ b2 / 64 = 2) ∧ 2048 ≤ v3 b0 b1 b2 ∧ (v3 b0 b1 b2 < 55296 ∨ 57343 < v3 b0 b1 b2)) ∧
      ¬ (240 ≤ b0 ∧ b0 < 248 ∧ (1 < n ∧ b1 / 64 = 2) ∧ (2 < n ∧ b2 / 64 = 2) ∧ (3 < n ∧ b3 / 64 = 2) ∧ 65536 ≤ v4 b0 b1 b2 b3 ∧ v4 b0 b1 b2 b3 ≤ 1114111) ∧ point l 0 = (0, 0)) := by
  have k1 := cont_N l n 1 hn
  have k2 := cont_N l n 2 hn
  have k3 := cont_N l n 3 hn
  rw [h1] at k1; rw [h2] at k2; rw [h3] at k3
  have e1 : val2 l 0 = v2 b0 b1 := by unfold val2 v2; rw [h0, h1]
  have e2 : val3 l 0 = v3 b0 b1 b2 := by unfold val3 v3; rw [h0, h1, h2]
  have e3 : val4 l 0 = v4 b0 b1 b2 b3 := by unfold val4 v4; rw [h0, h1, h2, h3]
  have hP : point l 0 = point l 0 := rfl
  conv at hP => rhs; unfold point
  rw [e1, e2, e3, h0, hn, if_neg (show ¬ n ≤ 0 by omega)] at hP
  simp only [Nat.zero_add] at hP
  generalize v2 b0 b1 = V2 at *
  generalize v3 b0 b1 b2 = V3 at *
  generalize v4 b0 b1 b2 b3 = V4 at *
  split at hP
  · exact Or.inl ⟨‹_›, hP⟩
  · split at hP
    · rename_i h; rw [k1] at h; exact Or.inr (Or.inl ⟨h.1, h.2.1, h.2.2.1, h.2.2.2, hP⟩)
    · split at hP
      · rename_i h; rw [k1, k2] at h; exact Or.inr (Or.inr (Or.inl ⟨h.1, h.2.1, h.2.2.1, h.2.2.2.1, h.2.2.2.2.1, h.2.2.2.2.2, hP⟩))
      · split at hP
        · rename_i h; rw [k1, k2, k3] at h; exact Or.inr (Or.inr (Or.inr (Or.inl ⟨h.1, h.2.1, h.2.2.1, h.2.2.2.1, h.2.2.2.2.1, h.2.2.2.2.2.1, h.2.2.2.2.2.2, hP⟩)))
        · rename_i x1 x2 x3 x4
          rw [k1] at x2; rw [k1, k2] at x3; rw [k1, k2, k3] at x4
          exact Or.inr (Or.inr (Or.inr (Or.inr ⟨x1, x2, x3, x4, hP⟩)))
set_option maxRecDepth 100000 in
set_option maxHeartbeats 4000000 in
theorem decN_point (l : Bs) (n : Nat) (hn : l.length = n) (hp : 0 < n) : Lib.decodeN n (atB l 0) (atB l 1) (atB l 2) (atB l 3) = if 0 < (point l 0).2 then point l 0 else (65533, 1) := by
  have h0 := atB_lt l 0; have h1 := atB_lt l 1; have h2 := atB_lt l 2; have h3 := atB_lt l 3
  have hc := point_cases l n _ _ _ _ hn hp rfl rfl rfl rfl
  unfold v2 v3 v4 at hc
  generalize atB l 0 = b0 at *
  generalize atB l 1 = b1 at *
  generalize atB l 2 = b2 at *
  generalize atB l 3 = b3 at *
  rcases hc with ⟨c1, hP⟩ | ⟨c1, c2, c3, c4, hP⟩ | ⟨c1, c2, c3, c4, c5, c6, hP⟩ | ⟨c1, c2, c3, c4, c5, c6, c7, hP⟩ | ⟨c1, c2, c3, c4, hP⟩
  · rw [hP]; unfold Lib.decodeN; rw [if_pos c1]; rfl
  · rw [hP]; unfold Lib.decodeN
    rw [if_neg (by omega), if_pos ⟨by omega, c3⟩, if_pos (by omega), if_pos (by simp)]
    exact Prod.ext (by simp; omega) rfl
  · rw [hP]; unfold Lib.decodeN
    rw [if_neg (by omega), if_neg (by omega), if_pos ⟨by omega, c3, c4⟩, if_pos (by omega), if_pos (by simp)]
    exact Prod.ext (by simp; omega) rfl
  · rw [hP]; unfold Lib.decodeN
    rw [if_neg (by omega), if_neg (by omega), if_neg (by omega), if_pos ⟨by omega, c3, c4, c5⟩, if_pos (by omega), if_pos (by simp)]
    exact Prod.ext (by simp; omega) rfl
  · rw [hP, if_neg (by simp)]; unfold Lib.decodeN
    rw [if_neg c1]
    split
    · rw [if_neg (by omega)]
    · split
      · rw [if_neg (by omega)]
      · split
        · rw [if_neg (by omega)]
        · rfl
/-- the first letter hangs on its own bytes alone -/
theorem point_pre (m l : Bs) (hk : ∀ k, k < (point l 0).2 → atB m k = atB l k) (hm : (point l 0).2 ≤ m.length) (h2 : 0 < (point l 0).2) (hl : (point l 0).2 ≤ l.length) : point m 0 = point l 0 := by
  rcases point_cases l _ _ _ _ _ rfl (by omega) rfl rfl rfl rfl with ⟨c1, hP⟩ | ⟨c1, c2, c3, c4, hP⟩ | ⟨c1, c2, c3, c4, c5, c6, hP⟩ | ⟨c1, c2, c3, c4, c5, c6, c7, hP⟩ | ⟨c1, c2, c3, c4, hP⟩
  · rw [hP] at hk hm ⊢; simp only at hk hm
    rw [← hk 0 (by omega)] at c1 ⊢
    rcases point_cases m _ _ _ _ _ rfl (by omega) rfl rfl rfl rfl with ⟨d1, hQ⟩ | ⟨d1, d2, d3, d4, hQ⟩ | ⟨d1, d2, d3, d4, d5, d6, hQ⟩ | ⟨d1, d2, d3, d4, d5, d6, d7, hQ⟩ | ⟨d1, d2, d3, d4, hQ⟩
    · exact hQ
    all_goals (exfalso; omega)
  · rw [hP] at hk hm ⊢; simp only at hk hm
    have e0 := hk 0 (by omega); have e1 := hk 1 (by omega)
    rw [← e0, ← e1] at c4 ⊢; rw [← e0] at c1 c2; rw [← e1] at c3
    rcases point_cases m _ _ _ _ _ rfl (by omega) rfl rfl rfl rfl with ⟨d1, hQ⟩ | ⟨d1, d2, d3, d4, hQ⟩ | ⟨d1, d2, d3, d4, d5, d6, hQ⟩ | ⟨d1, d2, d3, d4, d5, d6, d7, hQ⟩ | ⟨d1, d2, d3, d4, hQ⟩
    · exfalso; omega
    · exact hQ
    all_goals (exfalso; omega)
  · rw [hP] at hk hm ⊢; simp only at hk hm
    have e0 := hk 0 (by omega); have e1 := hk 1 (by omega); have e2 := hk 2 (by omega)
    rw [← e0, ← e1, ← e2] at c5 c6 ⊢; rw [← e0] at c1 c2; rw [← e1] at c3; rw [← e2] at c4
    rcases point_cases m _ _ _ _ _ rfl (by omega) rfl rfl rfl rfl with ⟨d1, hQ⟩ | ⟨d1, d2, d3, d4, hQ⟩ | ⟨d1, d2, d3, d4, d5, d6, hQ⟩ | ⟨d1, d2, d3, d4, d5, d6, d7, hQ⟩ | ⟨d1, d2, d3, d4, hQ⟩
    · exfalso; omega
    · exfalso; omega
    · exact hQ
    all_goals (exfalso; omega)
  · rw [hP] at hk hm ⊢; simp only at hk hm
    have e0 := hk 0 (by omega); have e1 := hk 1 (by omega); have e2 := hk 2 (by omega); have e3 := hk 3 (by omega)
    rw [← e0, ← e1, ← e2, ← e3] at c6 c7 ⊢; rw [← e0] at c1 c2; rw [← e1] at c3; rw [← e2] at c4; rw [← e3] at c5
    rcases point_cases m _ _ _ _ _ rfl (by omega) rfl rfl rfl rfl with ⟨d1, hQ⟩ | ⟨d1, d2, d3, d4, hQ⟩ | ⟨d1, d2, d3, d4, d5, d6, hQ⟩ | ⟨d1, d2, d3, d4, d5, d6, d7, hQ⟩ | ⟨d1, d2, d3, d4, hQ⟩
    · exfalso; omega
    · exfalso; omega
    · exfalso; omega
    · exact hQ
    · exfalso; omega
  · rw [hP] at h2; simp at h2
theorem decodeGo_eq (s : ByteArray) : Lib.decodeGo s = if s.size = 0 then (65533, 0) else if okL s.data.toList = true then point s.data.toList 0 else (65533, 1) := by
  unfold Lib.decodeGo
  by_cases h : s.size = 0
  · rw [if_pos h, if_pos h]
  · rw [if_neg h, if_neg h, Lib.decode_at, get_at, get_at, get_at, get_at]
    have := decN_point s.data.toList (s.size - 0) (by rw [← Lib.size_eq]; rfl) (by omega)
    simp only [Nat.zero_add]
    rw [this]
    simp only [okL, decide_eq_true_eq]
theorem point_one {l : Bs} (h : (point l 0).2 = 1) : (point l 0).1 < 128 := by
  rcases Nat.eq_zero_or_pos l.length with h0 | h0
  · have := (point_le l).1; omega
  · rcases point_cases l _ _ _ _ _ rfl h0 rfl rfl rfl rfl with ⟨c1, hP⟩ | ⟨c1, c2, c3, c4, hP⟩ | ⟨c1, c2, c3, c4, c5, c6, hP⟩ | ⟨c1, c2, c3, c4, c5, c6, c7, hP⟩ | ⟨c1, c2, c3, c4, hP⟩ <;> rw [hP] at h ⊢ <;> simp at h ⊢
    exact c1
theorem okL_nil : okL [] = false := rfl
theorem nil_of_size {s : ByteArray} (h : s.size = 0) : s.data.toList = [] := List.eq_nil_of_length_eq_zero (by rw [← Lib.size_eq]; exact h)
theorem okL_eq (s : ByteArray) : okL s.data.toList = (decide ((Lib.decodeGo s).1 ≠ 65533) || decide (1 < (Lib.decodeGo s).2)) := by
  rw [decodeGo_eq]
  by_cases h : s.size = 0
  · rw [if_pos h, nil_of_size h]; rfl
  · rw [if_neg h]
    by_cases hk : okL s.data.toList = true
    · rw [if_pos hk, hk]
      have h2 : 0 < (point s.data.toList 0).2 := by simpa [okL] using hk
      rcases Nat.lt_or_ge 1 (point s.data.toList 0).2 with h3 | h3
      · simp [h3]
      · have := point_one (l := s.data.toList) (by omega)
        have : (point s.data.toList 0).1 ≠ 65533 := by omega
        simp [this]
    · rw [if_neg hk]; simpa using hk
theorem valid_eq (s : ByteArray) : validL s.data.toList = (okL s.data.toList && decide (0 < (Lib.decodeGo s).2) && decide ((Lib.decodeGo s).2 = s.size)) := by
  rw [decodeGo_eq]
  by_cases h : s.size = 0
  · rw [if_pos h, nil_of_size h]; rfl
  · rw [if_neg h]
    by_cases hk : okL s.data.toList = true
    · have h2 : 0 < (point s.data.toList 0).2 := by simpa [okL] using hk
      rw [if_pos hk]; unfold validL; rw [hk, ← Lib.size_eq]; simp [h2]
    · unfold validL; simp [hk]
theorem decode_valid {s : ByteArray} (h : validL s.data.toList = true) : Lib.decodeGo s = point s.data.toList 0 := by
  have hk : okL s.data.toList = true := by unfold validL at h; simp at h; exact h.1
  rw [decodeGo_eq, if_neg, if_pos hk]
  intro h0; rw [nil_of_size h0] at hk; cases hk
theorem psz_bd (l : Bs) (h : l ≠ []) : 1 ≤ psz l ∧ psz l ≤ l.length := by
  have h1 := (point_le l).1
  have h2 := List.length_pos_iff.2 h
  unfold psz; omega
theorem psz_dec (s : ByteArray) (h : ¬ s.size = 0) : (Lib.decodeGo s).2 = psz s.data.toList := by
  rw [decodeGo_eq, if_neg h]
  unfold psz
  by_cases hk : okL s.data.toList = true
  · have h2 : 0 < (point s.data.toList 0).2 := by simpa [okL] using hk
    rw [if_pos hk]; omega
  · have h2 : ¬ 0 < (point s.data.toList 0).2 := by simpa [okL] using hk
    rw [if_neg hk]; simp only []; omega
theorem dec_bd (s : ByteArray) (h : ¬ s.size = 0) : 1 ≤ (Lib.decodeGo s).2 ∧ (Lib.decodeGo s).2 ≤ s.size := by
  rw [psz_dec s h, Lib.size_eq]
  exact psz_bd _ (fun e => h (by rw [Lib.size_eq, e]; rfl))
theorem dec_ff (s : ByteArray) (h : okL s.data.toList = false) : (Lib.decodeGo s).1 = 65533 := by
  rw [decodeGo_eq, h]
  by_cases h0 : s.size = 0
  · rw [if_pos h0]
  · rw [if_neg h0]; rfl
theorem dec_rune (s : ByteArray) : (Lib.decodeGo s).1 ≤ 1114111 := by
  rw [decodeGo_eq]
  split
  · simp
  · split
    · exact point_1 _
    · simp
theorem dec_at (s : ByteArray) (i : Nat) (h : i < s.size) : Utf8.decode s i = Lib.decodeGo (s.extract i s.size) := by
  have e : (s.extract i s.size).data.toList = s.data.toList.drop i := by
    rw [Lib.extract_data, List.take_of_length_le]
    rw [List.length_drop, ← Lib.size_eq]; exact Nat.le_refl _
  have hs : (s.extract i s.size).size = s.size - i := by rw [Lib.size_eq, e, List.length_drop, ← Lib.size_eq]
  rw [decodeGo_eq, if_neg (by omega), e]
  rw [Lib.decode_at, get_at, get_at, get_at, get_at]
  have := decN_point (s.data.toList.drop i) (s.size - i) (by rw [List.length_drop, ← Lib.size_eq]) (by omega)
  rw [atB_drop, atB_drop, atB_drop, atB_drop, Nat.add_zero] at this
  rw [this]
  simp only [okL, decide_eq_true_eq]
/-! ### pieces -/
theorem pcs_enough : ∀ (k : Nat) (l : Bs), l.length ≤ k → pcs k l = pcs l.length l
  | 0, l, h => by have : l = [] := List.eq_nil_of_length_eq_zero (by omega); subst this; rfl
  | k + 1, [], h => rfl
  | k + 1, x :: r, h => by
    have hb := psz_bd (x :: r) (by simp)
    simp only [List.length_cons] at h hb
    show (if x :: r = [] then [] else (x :: r).take (psz (x :: r)) :: pcs k ((x :: r).drop (psz (x :: r)))) = (if x :: r = [] then [] else (x :: r).take (psz (x :: r)) :: pcs r.length ((x :: r).drop (psz (x :: r))))
    rw [if_neg (by simp), if_neg (by simp), pcs_enough k _ (by simp; omega), pcs_enough r.length _ (by simp; omega)]
theorem pieces_nil : pieces [] = [] := rfl
theorem pieces_step (l : Bs) (h : l ≠ []) : pieces l = l.take (psz l) :: pieces (l.drop (psz l)) := by
  have hb := psz_bd l h
  have hl := List.length_pos_iff.2 h
  unfold pieces
  obtain ⟨k, hk⟩ : ∃ k, l.length = k + 1 := ⟨l.length - 1, by omega⟩
  rw [hk]
  show (if l = [] then [] else l.take (psz l) :: pcs k (l.drop (psz l))) = _
  rw [if_neg h, pcs_enough k _ (by simp; omega)]
theorem pieces_ind {P : Bs → Prop} (h0 : P []) (h1 : ∀ l, l ≠ [] → P (l.drop (psz l)) → P l) : ∀ l, P l := by
  have key : ∀ (k : Nat) (l : Bs), l.length ≤ k → P l := by
    intro k
    induction k with
    | zero => intro l hl; rw [List.eq_nil_of_length_eq_zero (Nat.le_zero.1 hl)]; exact h0
    | succ k ih =>
      intro l hl
      by_cases he : l = []
      · rw [he]; exact h0
      · exact h1 l he (ih _ (by have := psz_bd l he; simp; omega))
  exact fun l => key _ l (Nat.le_refl _)
theorem pieces_flat (l : Bs) : (pieces l).flatten = l := by
  induction l using pieces_ind with
  | h0 => rfl
  | h1 l h ih => rw [pieces_step l h, List.flatten_cons, ih, List.take_append_drop]
theorem pieces_len (l : Bs) : (pieces l).length ≤ l.length := by
  induction l using pieces_ind with
  | h0 => simp [pieces_nil]
  | h1 l h ih => rw [pieces_step l h, List.length_cons]; have := psz_bd l h; rw [List.length_drop] at ih; omega
theorem pieces_ne (l : Bs) : ∀ p ∈ pieces l, p ≠ [] := by
  induction l using pieces_ind with
  | h0 => intro p hp; rw [pieces_nil] at hp; cases hp
  | h1 l h ih =>
    intro p hp
    rw [pieces_step l h] at hp
    rcases List.mem_cons.1 hp with rfl | hp
    · have hb := psz_bd l h
      intro e; have := congrArg List.length e; rw [List.length_take, List.length_nil] at this; omega
    · exact ih p hp
/-- a letter's bytes alone tell it -/
theorem point_take (l : Bs) (h : okL l = true) : point (l.take (psz l)) 0 = point l 0 ∧ psz l = (point l 0).2 := by
  have h2 : 0 < (point l 0).2 := by simpa [okL] using h
  have hps : psz l = (point l 0).2 := by unfold psz; omega
  refine ⟨?_, hps⟩
  rw [hps]
  exact point_pre (l.take (point l 0).2) l (fun k hk => by unfold atB; rw [List.getElem?_take_of_lt hk]) (by have := (point_le l).1; simp; omega) h2 (point_le l).1
theorem ar2 (a b : Nat) (h1 : 192 ≤ a) (h3 : 128 ≤ b) (h4 : b < 192) : 192 + ((a - 192) * 64 + (b - 128)) / 64 = a ∧ 128 + ((a - 192) * 64 + (b - 128)) % 64 = b := by
  obtain ⟨x, rfl⟩ : ∃ x, a = 192 + x := ⟨a - 192, by omega⟩
  obtain ⟨y, rfl⟩ : ∃ y, b = 128 + y := ⟨b - 128, by omega⟩
  simp only [Nat.add_sub_cancel_left]
  omega
theorem ar3 (a b c : Nat) (h1 : 224 ≤ a) (h3 : 128 ≤ b) (h4 : b < 192) (h5 : 128 ≤ c) (h6 : c < 192) :
    224 + ((a - 224) * 4096 + (b - 128) * 64 + (c - 128)) / 4096 = a ∧ 128 + ((a - 224) * 4096 + (b - 128) * 64 + (c - 128)) / 64 % 64 = b ∧ 128 + ((a - 224) * 4096 + (b - 128) * 64 + (c - 128)) % 64 = c := by
  obtain ⟨x, rfl⟩ : ∃ x, a = 224 + x := ⟨a - 224, by omega⟩
  obtain ⟨y, rfl⟩ : ∃ y, b = 128 + y := ⟨b - 128, by omega⟩
  obtain ⟨z, rfl⟩ : ∃ z, c = 128 + z := ⟨c - 128, by omega⟩
  simp only [Nat.add_sub_cancel_left]
  omega
theorem ar4 (a b c d : Nat) (h1 : 240 ≤ a) (h3 : 128 ≤ b) (h4 : b < 192) (h5 : 128 ≤ c) (h6 : c < 192) (h7 : 128 ≤ d) (h8 : d < 192) :
    240 + ((a - 240) * 262144 + (b - 128) * 4096 + (c - 128) * 64 + (d - 128)) / 262144 = a ∧ 128 + ((a - 240) * 262144 + (b - 128) * 4096 + (c - 128) * 64 + (d - 128)) / 4096 % 64 = b ∧
    128 + ((a - 240) * 262144 + (b - 128) * 4096 + (c - 128) * 64 + (d - 128)) / 64 % 64 = c ∧ 128 + ((a - 240) * 262144 + (b - 128) * 4096 + (c - 128) * 64 + (d - 128)) % 64 = d := by
  obtain ⟨x, rfl⟩ : ∃ x, a = 240 + x := ⟨a - 240, by omega⟩
  obtain ⟨y, rfl⟩ : ∃ y, b = 128 + y := ⟨b - 128, by omega⟩
  obtain ⟨z, rfl⟩ : ∃ z, c = 128 + z := ⟨c - 128, by omega⟩
  obtain ⟨u, rfl⟩ : ∃ u, d = 128 + u := ⟨d - 128, by omega⟩
  simp only [Nat.add_sub_cancel_left]
  omega
theorem list2 {a b c d : Nat} (h : a = c) (h' : b = d) : ([UInt8.ofNat a, UInt8.ofNat b] : Bs) = [UInt8.ofNat c, UInt8.ofNat d] := by rw [h, h']
theorem list3 {a b x c d y : Nat} (h : a = c) (h' : b = d) (h2 : x = y) : ([UInt8.ofNat a, UInt8.ofNat b, UInt8.ofNat x] : Bs) = [UInt8.ofNat c, UInt8.ofNat d, UInt8.ofNat y] := by rw [h, h', h2]
theorem list4 {a b x z c d y u : Nat} (h : a = c) (h' : b = d) (h2 : x = y) (h3 : z = u) : ([UInt8.ofNat a, UInt8.ofNat b, UInt8.ofNat x, UInt8.ofNat z] : Bs) = [UInt8.ofNat c, UInt8.ofNat d, UInt8.ofNat y, UInt8.ofNat u] := by rw [h, h', h2, h3]
theorem encode_point (l : Bs) (h : okL l = true) : (Utf8.encode ((point l 0).1 : Int)).data.toList = l.take (psz l) := by
  have h2 : 0 < (point l 0).2 := by simpa [okL] using h
  have hps : psz l = (point l 0).2 := by unfold psz; omega
  have hle := (point_le l).1
  rw [hps]
  have tk : ∀ n, n ≤ l.length → l.take n = (List.range n).map fun i => UInt8.ofNat (atB l i) := by
    intro n hn
    apply List.ext_getElem
    · simp; omega
    · intro i h1 h2
      simp at h1
      simp [atB, show i < l.length by omega]
  rw [tk _ hle]
  have b0 := atB_lt l 0; have b1 := atB_lt l 1; have b2 := atB_lt l 2; have b3 := atB_lt l 3
  rcases point_cases l _ _ _ _ _ rfl (by omega) rfl rfl rfl rfl with ⟨c1, hP⟩ | ⟨c1, c2, c3, c4, hP⟩ | ⟨c1, c2, c3, c4, c5, c6, hP⟩ | ⟨c1, c2, c3, c4, c5, c6, c7, hP⟩ | ⟨c1, c2, c3, c4, hP⟩
  · rw [hP]
    have hv : Utf8.valid ((atB l 0 : Nat) : Int) = true := by simp [Utf8.valid]; omega
    unfold Utf8.encode
    simp [hv, c1]
  · rw [hP]
    unfold v2 at *
    have hv : Utf8.valid ((((atB l 0 - 192) * 64 + (atB l 1 - 128) : Nat)) : Int) = true := by simp only [Utf8.valid, Bool.or_eq_true, Bool.and_eq_true, decide_eq_true_eq]; omega
    unfold Utf8.encode
    simp only [hv, if_true, Int.toNat_natCast]
    rw [if_neg (by omega), if_pos (by omega)]
    have q := ar2 (atB l 0) (atB l 1) c1 (by omega) (by omega)
    exact list2 q.1 q.2
  · rw [hP]
    unfold v3 at *
    have hv : Utf8.valid ((((atB l 0 - 224) * 4096 + (atB l 1 - 128) * 64 + (atB l 2 - 128) : Nat)) : Int) = true := by simp only [Utf8.valid, Bool.or_eq_true, Bool.and_eq_true, decide_eq_true_eq]; omega
    unfold Utf8.encode
    simp only [hv, if_true, Int.toNat_natCast]
    rw [if_neg (by omega), if_neg (by omega), if_pos (by omega)]
    have q := ar3 (atB l 0) (atB l 1) (atB l 2) c1 (by omega) (by omega) (by omega) (by omega)
    exact list3 q.1 q.2.1 q.2.2
  · rw [hP]
    unfold v4 at *
    have hv : Utf8.valid ((((atB l 0 - 240) * 262144 + (atB l 1 - 128) * 4096 + (atB l 2 - 128) * 64 + (atB l 3 - 128) : Nat)) : Int) = true := by simp only [Utf8.valid, Bool.or_eq_true, Bool.and_eq_true, decide_eq_true_eq]; omega
    unfold Utf8.encode
    simp only [hv, if_true, Int.toNat_natCast]
    rw [if_neg (by omega), if_neg (by omega), if_neg (by omega)]
    have q := ar4 (atB l 0) (atB l 1) (atB l 2) (atB l 3) c1 (by omega) (by omega) (by omega) (by omega) (by omega) (by omega)
    exact list4 q.1 q.2.1 q.2.2.1 q.2.2.2
  · rw [hP] at h2; simp at h2
def ctlB (r : Int) : Bool := decide (r < 32 ∨ r = 127)
/-- a hexadecimal digit -/
def hexd (k : Nat) : UInt8 := if k < 10 then UInt8.ofNat (48 + k) else UInt8.ofNat (87 + k)
def hexL (c : UInt8) : Bs := [37, 120, hexd (c.toNat / 16), hexd (c.toNat % 16)]
/-- the table of the classes, and what a scan of it gives -/
def spans : List (Int × Int × Int) := [(97, 122, 1), (181, 181, 1), (223, 246, 1), (248, 255, 1), (65, 90, 2), (192, 214, 2), (216, 222, 2), (48, 57, 3), (9, 13, 4), (32, 32, 4), (160, 160, 4), (33, 126, 5)]
def scan : List (Int × Int × Int) → Int → Int
  | [], _ => 6
  | (a, b, c) :: t, r => if a ≤ r ∧ r ≤ b then c else scan t r
/-- the class of a code point -/
def clsOf (r : Int) : Int := scan spans r
def spA (k : Nat) : Int := (spans.getD k (0, 0, 0)).1
def spB (k : Nat) : Int := (spans.getD k (0, 0, 0)).2.1
def spC (k : Nat) : Int := (spans.getD k (0, 0, 0)).2.2
theorem scan_drop (k : Nat) (hk : k < 12) (r : Int) : scan (spans.drop k) r = if spA k ≤ r ∧ r ≤ spB k then spC k else scan (spans.drop (k + 1)) r := by
  match k, hk with
  | 0, _ | 1, _ | 2, _ | 3, _ | 4, _ | 5, _ | 6, _ | 7, _ | 8, _ | 9, _ | 10, _ | 11, _ => rfl
theorem sp_bd (k : Nat) : 0 ≤ spA k ∧ spA k ≤ 255 ∧ 0 ≤ spB k ∧ spB k ≤ 255 ∧ 0 ≤ spC k ∧ spC k ≤ 6 := by
  match k with
  | 0 | 1 | 2 | 3 | 4 | 5 | 6 | 7 | 8 | 9 | 10 | 11 => decide
  | k + 12 => simp [spA, spB, spC, spans]
def classL (l : Bs) : Int := if validL l = true then clsOf (point l 0).1 else 0
/-- how Quote writes a piece -/
def unitQ (t : Bs) (r : Int) (ok : Bool) : Bs :=
  if ok = false ∨ ctlB r = true then hexL (t.headD 0)
  else if clsOf r = 4 ∨ clsOf r = 5 then 37 :: t else t
/-- how Quote writes a piece, by the piece alone -/
def unitP (t : Bs) : Bs :=
  if validL t = false ∨ ctlB (point t 0).1 = true then hexL (t.headD 0)
  else if clsOf (point t 0).1 = 4 ∨ clsOf (point t 0).1 = 5 then 37 :: t else t
def quoteP (l : Bs) : Bs := (pieces l).flatMap unitP
def quoteL (l : Bs) : Bs := if l = [] then [37, 48] else quoteP l
theorem unitQ_len (t : Bs) (r : Int) (k : Bool) : (unitQ t r k).length ≤ 4 + t.length := by
  unfold unitQ
  split
  · simp [hexL]
  · split <;> simp <;> omega
theorem first_ext (s : ByteArray) (h : ¬ s.size = 0) : (s.extract 0 (Lib.decodeGo s).2).data.toList = s.data.toList.take (psz s.data.toList) ∧ (s.extract (Lib.decodeGo s).2 s.size).data.toList = s.data.toList.drop (psz s.data.toList) ∧ s.data.toList ≠ [] := by
  rw [psz_dec s h, Lib.extract_data, Lib.extract_data]
  refine ⟨by rw [List.drop_zero, Nat.sub_zero], ?_, fun e => h (by rw [Lib.size_eq, e]; rfl)⟩
  rw [List.take_of_length_le]
  rw [List.length_drop, ← Lib.size_eq]; exact Nat.le_refl _
theorem head_take (l : Bs) (n : Nat) (h : 0 < n) : (l.take n).headD 0 = l.headD 0 := by
  cases l with
  | nil => simp
  | cons x r => cases n with
    | zero => omega
    | succ n => rfl
/-- the first piece: valid or one stray byte -/
theorem piece_first (l : Bs) (h : l ≠ []) : validL (l.take (psz l)) = okL l ∧ (okL l = true → point (l.take (psz l)) 0 = point l 0) := by
  by_cases hk : okL l = true
  · obtain ⟨h1, h2⟩ := point_take l hk
    have hb := psz_bd l h
    refine ⟨?_, fun _ => h1⟩
    unfold validL okL
    rw [h1, List.length_take, ← h2]
    have e : min (psz l) l.length = psz l := by omega
    rw [e]; simp
  · have hz : (point l 0).2 = 0 := by
      have : ¬ 0 < (point l 0).2 := by simpa [okL] using hk
      omega
    have hp : psz l = 1 := by unfold psz; omega
    refine ⟨?_, fun h => absurd h hk⟩
    have hf : okL l = false := by simpa using hk
    rw [hf, hp]
    obtain ⟨x, r, rfl⟩ : ∃ x r, l = x :: r := by
      cases l with
      | nil => exact absurd rfl h
      | cons x r => exact ⟨x, r, rfl⟩
    -- one byte alone is no letter
    unfold validL
    have hx : okL [x] = false := by
      have hb : ¬ atB (x :: r) 0 < 128 := by
        intro hlt
        rcases point_cases (x :: r) _ _ _ _ _ rfl (by simp) rfl rfl rfl rfl with ⟨c1, hP⟩ | ⟨c1, c2, c3, c4, hP⟩ | ⟨c1, c2, c3, c4, c5, c6, hP⟩ | ⟨c1, c2, c3, c4, c5, c6, c7, hP⟩ | ⟨c1, c2, c3, c4, hP⟩
        · rw [hP] at hz; simp at hz
        · omega
        · omega
        · omega
        · exact c1 hlt
      have he : atB (x :: r) 0 = atB [x] 0 := rfl
      rw [he] at hb
      rcases point_cases [x] 1 _ _ _ _ rfl (by simp) rfl rfl rfl rfl with ⟨c1, hP⟩ | ⟨c1, c2, c3, c4, hP⟩ | ⟨c1, c2, c3, c4, c5, c6, hP⟩ | ⟨c1, c2, c3, c4, c5, c6, c7, hP⟩ | ⟨c1, c2, c3, c4, hP⟩
      · exact absurd c1 hb
      · omega
      · omega
      · omega
      · unfold okL; rw [hP]; rfl
    show (okL [x] && _) = false
    rw [hx]; rfl
theorem quote_step (s : ByteArray) (h : ¬ s.size = 0) :
    quoteP s.data.toList = unitQ (s.extract 0 (Lib.decodeGo s).2).data.toList (Lib.decodeGo s).1 (okL s.data.toList) ++ quoteP (s.extract (Lib.decodeGo s).2 s.size).data.toList := by
  obtain ⟨e1, e2, hne⟩ := first_ext s h
  rw [e1, e2]
  obtain ⟨hv, hp⟩ := piece_first s.data.toList hne
  unfold quoteP
  rw [pieces_step _ hne, List.flatMap_cons]
  congr 1
  unfold unitP unitQ
  rw [hv]
  by_cases hk : okL s.data.toList = true
  · rw [hk, hp hk]
    have : Lib.decodeGo s = point s.data.toList 0 := by rw [decodeGo_eq, if_neg h, if_pos hk]
    rw [this]
  · have hf : okL s.data.toList = false := by simpa using hk
    rw [hf, if_pos (Or.inl rfl), if_pos (Or.inl rfl)]
/-- the change of a code point's case -/
def lowRC : Int := 2
def lowRD (_ : Int) : Prop := True
def lowRE (r : Int) : Int := r + 32
def upRC : Int := 1
def upRD (r : Int) : Prop := r ≠ 181 ∧ r ≠ 223 ∧ r ≠ 255
def upRE (r : Int) : Int := r - 32
instance (r : Int) : Decidable (lowRD r) := by unfold lowRD; infer_instance
instance (r : Int) : Decidable (upRD r) := by unfold upRD; infer_instance
def lowR (r : Int) : Int := if clsOf r = lowRC ∧ lowRD r then lowRE r else r
def upR (r : Int) : Int := if clsOf r = upRC ∧ upRD r then upRE r else r
theorem encode_le (r : Int) : (Utf8.encode r).size ≤ 4 := by
  unfold Utf8.encode
  simp only []
  generalize (if Utf8.valid r = true then r.toNat else Utf8.runeError) = c
  repeat' split
  all_goals exact Nat.le_of_ble_eq_true rfl
/-- the pieces changed -/
def changeP (g : Int → Int) (t : Bs) : Bs := if validL t = true then (Utf8.encode (g (point t 0).1)).data.toList else t
def changeL (g : Int → Int) (l : Bs) : Bs := (pieces l).flatMap (changeP g)
theorem change_step (g : Int → Int) (s : ByteArray) (h : ¬ s.size = 0) :
    changeL g s.data.toList = (if okL s.data.toList = true then (Utf8.encode (g (Lib.decodeGo s).1)).data.toList else (s.extract 0 (Lib.decodeGo s).2).data.toList) ++ changeL g (s.extract (Lib.decodeGo s).2 s.size).data.toList := by
  obtain ⟨e1, e2, hne⟩ := first_ext s h
  rw [e1, e2]
  obtain ⟨hv, hp⟩ := piece_first s.data.toList hne
  unfold changeL
  rw [pieces_step _ hne, List.flatMap_cons]
  congr 1
  unfold changeP
  rw [hv]
  by_cases hk : okL s.data.toList = true
  · rw [if_pos hk, if_pos hk, hp hk]
    have : Lib.decodeGo s = point s.data.toList 0 := by rw [decodeGo_eq, if_neg h, if_pos hk]
    rw [this]
  · rw [if_neg hk, if_neg hk]
/-- the offset of the first stray byte -/
def strayAt : List Bs → Nat → Option Nat
  | [], _ => none
  | p :: r, i => if validL p = true then strayAt r (i + p.length) else some i
/-- what Split returns: letters, offset, error -/
def splitR (l : Bs) : List Bs × Nat × Nat :=
  if 16384 < l.length then ([], 0, 2)
  else match strayAt (pieces l) 0 with
    | some i => ([], i, 3)
    | none => (pieces l, 0, 0)
def splitL (l : Bs) : List Bs := (splitR l).1
def splitAt (l : Bs) : Nat := (splitR l).2.1
def splitE (l : Bs) : Nat := (splitR l).2.2
theorem split_more {l : Bs} {pos n : Nat} {done : List Bs} (hp : n = psz (l.drop pos)) (hk : okL (l.drop pos) = true) (hlt : pos < l.length) (hn : pos + n ≤ l.length)
    (h : pieces l = done ++ pieces (l.drop pos) ∧ (∀ p ∈ done, validL p = true) ∧ done.flatten.length = pos) :
    pieces l = (done ++ [(l.drop pos).take n]) ++ pieces (l.drop (pos + n)) ∧ (∀ p ∈ done ++ [(l.drop pos).take n], validL p = true) ∧ (done ++ [(l.drop pos).take n]).flatten.length = pos + n := by
  have hne : l.drop pos ≠ [] := by intro e; have := congrArg List.length e; simp at this; omega
  obtain ⟨h1, h2, h3⟩ := h
  refine ⟨?_, ?_, ?_⟩
  · rw [h1, pieces_step _ hne, ← hp, List.drop_drop]; simp
  · intro p hm
    rcases List.mem_append.1 hm with hm | hm
    · exact h2 p hm
    · rw [List.mem_singleton.1 hm, hp, (piece_first _ hne).1, hk]
  · rw [List.flatten_append, List.length_append, h3]; simp; omega
theorem stray_app (d r : List Bs) : ∀ i, (∀ p ∈ d, validL p = true) → strayAt (d ++ r) i = strayAt r (i + d.flatten.length) := by
  induction d with
  | nil => intro i _; simp
  | cons p d ih =>
    intro i h
    simp only [List.cons_append, strayAt]
    rw [if_pos (h p (by simp)), ih _ fun q hq => h q (by simp [hq])]
    simp [Nat.add_assoc]
theorem split_stray {l : Bs} {pos : Nat} {done : List Bs} (hl : l.length ≤ 16384) (hk : okL (l.drop pos) = false)
    (h : pieces l = done ++ pieces (l.drop pos) ∧ (∀ p ∈ done, validL p = true) ∧ done.flatten.length = pos) (hlt : pos < l.length) : splitL l = [] ∧ splitAt l = pos ∧ splitE l = 3 := by
  have hne : l.drop pos ≠ [] := by intro e; have := congrArg List.length e; simp at this; omega
  obtain ⟨h1, h2, h3⟩ := h
  have e : splitR l = ([], pos, 3) := by
    unfold splitR
    rw [if_neg (by omega), h1, stray_app _ _ _ h2, pieces_step _ hne]
    simp only [strayAt]
    rw [if_neg (by rw [(piece_first _ hne).1, hk]; simp), h3]
    simp
  unfold splitL splitAt splitE
  rw [e]; exact ⟨rfl, rfl, rfl⟩
theorem split_all {l : Bs} {pos : Nat} {done : List Bs} (hl : l.length ≤ 16384)
    (h : pieces l = done ++ pieces (l.drop pos) ∧ (∀ p ∈ done, validL p = true) ∧ done.flatten.length = pos) (hlt : l.length ≤ pos) : splitL l = done ∧ splitAt l = 0 ∧ splitE l = 0 := by
  obtain ⟨h1, h2, h3⟩ := h
  rw [List.drop_of_length_le hlt, pieces_nil, List.append_nil] at h1
  have e : splitR l = (done, 0, 0) := by
    unfold splitR
    have := stray_app done [] 0 h2
    rw [List.append_nil] at this
    rw [if_neg (by omega), h1, this]
    rfl
  unfold splitL splitAt splitE
  rw [e]; exact ⟨rfl, rfl, rfl⟩
/-- the length of the first k pieces together -/
def offK (l : List Bs) (k : Nat) : Nat := (l.take k).flatten.length
theorem offK_le (l : List Bs) (k : Nat) : offK l k ≤ l.flatten.length := by
  unfold offK
  conv => rhs; rw [← List.take_append_drop k l, List.flatten_append, List.length_append]
  omega
theorem offK_succ (l : List Bs) (k : Nat) (h : k < l.length) : offK l (k + 1) = offK l k + l[k].length := by
  unfold offK
  rw [List.take_succ_eq_append_getElem h, List.flatten_append, List.length_append]; simp
theorem offK_zero (l : List Bs) : offK l 0 = 0 := rfl
theorem stray_none (l : List Bs) : ∀ (i : Nat), (∀ p ∈ l, validL p = true) → strayAt l i = none := by
  induction l with
  | nil => intro i _; rfl
  | cons p r ih => intro i h; simp only [strayAt]; rw [if_pos (h p (by simp))]; exact ih _ fun q hq => h q (by simp [hq])
theorem stray_at (l : List Bs) : ∀ (i k : Nat) (hk : k < l.length), (∀ p ∈ l.take k, validL p = true) → validL l[k] = false → strayAt l i = some (i + (l.take k).flatten.length) := by
  induction l with
  | nil => intro i k hk; simp at hk
  | cons p r ih =>
    intro i k hk h hf
    cases k with
    | zero => simp only [List.getElem_cons_zero] at hf; simp [strayAt, hf]
    | succ k =>
      simp only [strayAt]
      rw [if_pos (h p (by simp)), ih (i + p.length) k (by simpa using hk) (fun q hq => h q (by simp [hq])) (by simpa using hf)]
      simp; omega
theorem stray_some (l : List Bs) (k : Nat) (hk : k < l.length) (h : ∀ p ∈ l.take k, validL p = true) (hf : validL l[k] = false) : strayAt l 0 = some (offK l k) := by
  rw [stray_at l 0 k hk h hf]; simp [offK]
theorem encode_lo (p : Nat) (h : p < 128) : Utf8.encode p = ⟨[UInt8.ofNat p].toArray⟩ := by
  have hv : Utf8.valid (p : Int) = true := by simp [Utf8.valid]; omega
  unfold Utf8.encode
  simp [hv, h]
theorem encode_hi (p : Nat) (h : 128 ≤ p) (h2 : p ≤ 255) : Utf8.encode p = ⟨[UInt8.ofNat (192 + p / 64), UInt8.ofNat (128 + p % 64)].toArray⟩ := by
  have hv : Utf8.valid (p : Int) = true := by simp [Utf8.valid]; omega
  unfold Utf8.encode
  simp only [hv]
  simp [show ¬ p < 128 by omega, show p < 2048 by omega]
theorem scan_pos : ∀ (l : List (Int × Int × Int)) (r : Int), (∀ t ∈ l, 1 ≤ t.2.2 ∧ t.2.2 ≤ 6) → 1 ≤ scan l r ∧ scan l r ≤ 6
  | [], r, _ => by simp [scan]
  | (a, b, c) :: l, r, h => by
    simp only [scan]
    split
    · exact h (a, b, c) (by simp)
    · exact scan_pos l r fun t ht => h t (by simp [ht])
theorem clsOf_pos (r : Int) : 1 ≤ clsOf r ∧ clsOf r ≤ 6 := scan_pos spans r (by decide)
theorem unitP_eq (t : Bs) : unitP t = if classL t = 0 ∨ (okL t && ctlB (point t 0).1) = true then hexL (t.headD 0) else if classL t = 4 ∨ classL t = 5 then 37 :: t else t := by
  unfold unitP classL
  by_cases hv : validL t = true
  · have hk : okL t = true := by unfold validL at hv; simp at hv; exact hv.1
    have hp := clsOf_pos (point t 0).1
    rw [hv, hk, if_pos rfl]
    by_cases hc : ctlB (point t 0).1 = true
    · rw [if_pos (Or.inr hc), if_pos (Or.inr (by rw [hc]; rfl))]
    · have c1 : ¬ (true = false ∨ ctlB (point t 0).1 = true) := by simp [hc]
      have c2 : ¬ (clsOf (point t 0).1 = 0 ∨ (true && ctlB (point t 0).1) = true) := by
        intro h
        rcases h with h | h
        · omega
        · simp at h; exact hc h
      rw [if_neg c1, if_neg c2]
  · have hf : validL t = false := by simpa using hv
    rw [hf]
    simp
theorem unitP_len (t : Bs) : (unitP t).length ≤ 4 + t.length := by
  unfold unitP
  split
  · simp [hexL]
  · split <;> simp <;> omega
theorem changeP_len (g : Int → Int) (t : Bs) : (changeP g t).length ≤ 4 + t.length := by
  unfold changeP
  split
  · have := encode_le (g (point t 0).1); rw [Lib.size_eq] at this; omega
  · omega
def chg1 (t : Bs) : Prop := classL t = 2
def chg2 (t : Bs) : Prop := classL t = 1 ∧ ((point t 0).1 : Int) ≠ 181 ∧ ((point t 0).1 : Int) ≠ 223 ∧ ((point t 0).1 : Int) ≠ 255
theorem valid_ok {t : Bs} (h : validL t = true) : okL t = true ∧ (point t 0).2 = t.length := by
  unfold validL at h; simpa using h
theorem encode_valid {t : Bs} (h : validL t = true) : (Utf8.encode ((point t 0).1 : Int)).data.toList = t := by
  obtain ⟨h1, h2⟩ := valid_ok h
  rw [encode_point t h1, (point_take t h1).2, h2, List.take_length]
theorem scan_mem : ∀ (l : List (Int × Int × Int)) (r : Int), scan l r = 6 ∨ ∃ t ∈ l, t.1 ≤ r ∧ r ≤ t.2.1 ∧ scan l r = t.2.2
  | [], r => Or.inl rfl
  | (a, b, c) :: l, r => by
    simp only [scan]
    by_cases h : a ≤ r ∧ r ≤ b
    · rw [if_pos h]; exact Or.inr ⟨(a, b, c), by simp, h.1, h.2, rfl⟩
    · rw [if_neg h]
      rcases scan_mem l r with h1 | ⟨t, h1, h2⟩
      · exact Or.inl h1
      · exact Or.inr ⟨t, by simp [h1], h2⟩
theorem cls_2 {r : Int} (h : clsOf r = 2) : 65 ≤ r ∧ r ≤ 222 := by
  unfold clsOf at h
  rcases scan_mem spans r with h1 | ⟨t, h1, h2⟩
  · omega
  · rw [h] at h2
    simp only [spans, List.mem_cons, List.not_mem_nil, or_false] at h1
    rcases h1 with rfl | rfl | rfl | rfl | rfl | rfl | rfl | rfl | rfl | rfl | rfl | rfl <;> simp only at h2 <;> omega
theorem cls_1 {r : Int} (h : clsOf r = 1) : 97 ≤ r ∧ r ≤ 255 := by
  unfold clsOf at h
  rcases scan_mem spans r with h1 | ⟨t, h1, h2⟩
  · omega
  · rw [h] at h2
    simp only [spans, List.mem_cons, List.not_mem_nil, or_false] at h1
    rcases h1 with rfl | rfl | rfl | rfl | rfl | rfl | rfl | rfl | rfl | rfl | rfl | rfl <;> simp only at h2 <;> omega
theorem change1_cases (t : Bs) : (chg1 t → changeP lowR t = (Utf8.encode (lowRE ((point t 0).1 : Int))).data.toList ∧ (65 ≤ ((point t 0).1 : Int) ∧ ((point t 0).1 : Int) ≤ 222) ∧ True) ∧ (¬ chg1 t → changeP lowR t = t) := by
  unfold chg1 classL changeP
  by_cases hv : validL t = true
  · rw [if_pos hv, if_pos hv]
    refine ⟨fun h => ⟨?_, cls_2 h, trivial⟩, fun h => ?_⟩
    · unfold lowR; rw [if_pos ⟨h, trivial⟩]
    · unfold lowR; rw [if_neg (fun hh => h hh.1)]; exact encode_valid hv
  · rw [if_neg hv, if_neg hv]
    exact ⟨fun h => by simp at h, fun _ => rfl⟩
theorem change2_cases (t : Bs) : (chg2 t → changeP upR t = (Utf8.encode (upRE ((point t 0).1 : Int))).data.toList ∧ (97 ≤ ((point t 0).1 : Int) ∧ ((point t 0).1 : Int) ≤ 255) ∧ True) ∧ (¬ chg2 t → changeP upR t = t) := by
  unfold chg2 classL changeP
  by_cases hv : validL t = true
  · rw [if_pos hv, if_pos hv]
    refine ⟨fun h => ⟨?_, cls_1 h.1, trivial⟩, fun h => ?_⟩
    · unfold upR; rw [if_pos ⟨h.1, h.2⟩]
    · unfold upR; rw [if_neg (fun hh => h ⟨hh.1, hh.2⟩)]; exact encode_valid hv
  · rw [if_neg hv, if_neg hv]
    exact ⟨fun h => by simp at h, fun _ => rfl⟩
/-- the value of a hexadecimal digit, as strconv reads it -/
def lowB (c : UInt8) : Nat := (c ||| 32).toNat
def hexv (c : UInt8) : Option Nat :=
  if 48 ≤ c.toNat ∧ c.toNat ≤ 57 then some (c.toNat - 48)
  else if 97 ≤ lowB c ∧ lowB c ≤ 122 then (if lowB c < 103 then some (lowB c - 87) else none) else none
/-- how strconv.ParseUint meets a byte: a digit, a letter up to f, another letter, another byte -/
theorem hexv_cases (c : UInt8) : (48 ≤ (c.toNat : Int) ∧ (c.toNat : Int) ≤ 57 ∧ hexv c = some (c.toNat - 48)) ∨
    (((c.toNat : Int) < 48 ∨ 57 < (c.toNat : Int)) ∧ 97 ≤ (lowB c : Int) ∧ (lowB c : Int) ≤ 102 ∧ hexv c = some (lowB c - 87)) ∨
    (((c.toNat : Int) < 48 ∨ 57 < (c.toNat : Int)) ∧ 103 ≤ (lowB c : Int) ∧ (lowB c : Int) ≤ 122 ∧ hexv c = none) ∨
    (((c.toNat : Int) < 48 ∨ 57 < (c.toNat : Int)) ∧ ((lowB c : Int) < 97 ∨ 122 < (lowB c : Int)) ∧ hexv c = none) := by
  unfold hexv
  split
  · left; exact ⟨by omega, by omega, rfl⟩
  · right
    split
    · split
      · left; exact ⟨by omega, by omega, by omega, rfl⟩
      · right; left; exact ⟨by omega, by omega, by omega, rfl⟩
    · right; right; exact ⟨by omega, by omega, rfl⟩
theorem lowB_lt (c : UInt8) : lowB c < 256 := UInt8.toNat_lt _
def hex2 (x y : UInt8) : Option Nat := match hexv x, hexv y with | some a, some b => some (16 * a + b) | _, _ => none
/-- the first unit of a quoted text: the name that it stands for, its size; 0: none -/
def unitT (t : Bs) : Bs × Nat :=
  if t.headD 0 ≠ 37 then (t.take (psz t), psz t)
  else if 4 ≤ t.length ∧ t.getD 1 0 = 120 ∧ (hex2 (t.getD 2 0) (t.getD 3 0)).isSome = true then ([UInt8.ofNat ((hex2 (t.getD 2 0) (t.getD 3 0)).getD 0)], 4)
  else if t.length < 2 then ([], 0)
  else ((t.drop 1).take (psz (t.drop 1)), 1 + psz (t.drop 1))
theorem unitT_plain (s : ByteArray) (h0 : 0 < s.size) (h : s.data.toList.headD 0 ≠ 37) :
    (unitT s.data.toList).1 = (s.extract 0 (Lib.decodeGo s).2).data.toList ∧ (unitT s.data.toList).2 = (Lib.decodeGo s).2 := by
  obtain ⟨e1, e2, hne⟩ := first_ext s (by omega)
  unfold unitT
  rw [if_pos h, e1, psz_dec s (by omega)]
  exact ⟨rfl, rfl⟩
theorem ne37 (c : UInt8) (h : c ≠ 37) : (((c.toNat : Nat) : Int) != 37) = true := by
  have : c.toNat ≠ 37 := fun e => h (UInt8.toNat_inj.1 e)
  simp; omega
theorem unitT_short (s : ByteArray) (h : s.size < 2) (h37 : s.data.toList.headD 0 = 37) : unitT s.data.toList = ([], 0) := by
  unfold unitT
  rw [Lib.size_eq] at h
  rw [if_neg (fun hh => hh h37), if_neg (by omega), if_pos h]
theorem unitT_tail (s : ByteArray) (h1 : 1 < s.size) (h37 : s.data.toList.headD 0 = 37) :
    (¬ (4 ≤ s.data.toList.length ∧ s.data.toList.getD 1 0 = 120 ∧ (hex2 (s.data.toList.getD 2 0) (s.data.toList.getD 3 0)).isSome = true)) →
    (unitT s.data.toList).1 = (s.extract 1 (1 + (Lib.decodeGo (s.extract 1 s.size)).2)).data.toList ∧ (unitT s.data.toList).2 = 1 + (Lib.decodeGo (s.extract 1 s.size)).2 := by
  intro hx
  have e : (s.extract 1 s.size).data.toList = s.data.toList.drop 1 := by
    rw [Lib.extract_data, List.take_of_length_le]
    rw [List.length_drop, ← Lib.size_eq]; exact Nat.le_refl _
  have hs : ¬ (s.extract 1 s.size).size = 0 := by rw [Lib.size_eq, e, List.length_drop, ← Lib.size_eq]; omega
  rw [psz_dec _ hs, e, Lib.extract_data, Nat.add_sub_cancel_left]
  unfold unitT
  rw [Lib.size_eq] at h1
  rw [if_neg (fun hh => hh h37), if_neg hx, if_neg (by omega)]
  exact ⟨rfl, rfl⟩
theorem unitT_hex (s : ByteArray) (h37 : s.data.toList.headD 0 = 37) : ∀ m, 4 ≤ s.size → s.data.toList.getD 1 0 = 120 → hex2 (s.data.toList.getD 2 0) (s.data.toList.getD 3 0) = some m →
    unitT s.data.toList = ([UInt8.ofNat m], 4) := by
  intro m h4 h1 h2
  unfold unitT
  rw [Lib.size_eq] at h4
  rw [if_neg (fun hh => hh h37), if_pos ⟨h4, h1, by rw [h2]; rfl⟩, h2]; rfl
theorem ext_two (s : ByteArray) (h : 4 ≤ s.size) : ∃ x y, s.extract 2 4 = ⟨#[x, y]⟩ ∧ s.data.toList.getD 2 0 = x ∧ s.data.toList.getD 3 0 = y := by
  have hl : s.data.toList.length = s.size := (Lib.size_eq s).symm
  refine ⟨s.data.toList.getD 2 0, s.data.toList.getD 3 0, ?_, rfl, rfl⟩
  have e : (s.extract 2 4).data.toList = [s.data.toList.getD 2 0, s.data.toList.getD 3 0] := by
    rw [Lib.extract_data]
    obtain ⟨d⟩ := s
    obtain ⟨l⟩ := d
    match l, h with
    | a :: b :: c :: d :: r, _ => rfl
  cases hx : s.extract 2 4 with
  | mk d => rw [hx] at e; cases d with
    | mk l => simp only at e; rw [e]
theorem byte1 (t : ByteArray) (ht : 1 < t.size) : t[1] = t.data.toList.getD 1 0 := by
  obtain ⟨d⟩ := t
  obtain ⟨l⟩ := d
  match l, ht with
  | a :: b :: r, _ => rfl
theorem hexv_lt {c : UInt8} {a : Nat} (h : hexv c = some a) : a < 16 := by
  unfold hexv at h
  split at h
  · cases h; omega
  · split at h
    · split at h
      · cases h; omega
      · cases h
    · cases h
theorem hex2_lt {x y : UInt8} {m : Nat} (h : hex2 x y = some m) : m < 256 := by
  unfold hex2 at h
  cases hx : hexv x with
  | none => rw [hx] at h; simp at h
  | some a =>
    cases hy : hexv y with
    | none => rw [hx, hy] at h; simp at h
    | some b =>
      rw [hx, hy] at h
      simp at h
      have := hexv_lt hx; have := hexv_lt hy; omega
theorem eq120 (c : UInt8) (h : ¬ c = 120) : (((c.toNat : Nat) : Int) == 120) = false := by
  have : c.toNat ≠ 120 := fun e => h (UInt8.toNat_inj.1 e)
  simp; omega
end Go.Proofs.YtbpfbceagdikoaaDoor
