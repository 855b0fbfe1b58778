/- The plain words of layer 1 (letters): what the chapter's functions compute, on lists of bytes; no program in sight. -/
import Derived.Shelf.Unicode.DecodeAny
namespace Go.Proofs.YtplipnchkkhdaaaGreatDoor
abbrev Bs := List UInt8

/-- byte i of a list, 0 beyond its end -/
def atB (l : Bs) (i : Nat) : Nat := (l[i]?.getD 0).toNat
theorem atB_lt (l : Bs) (i : Nat) : atB l i < 256 := by unfold atB; exact UInt8.toNat_lt _
/-- does byte i continue a letter? -/
def cont (l : Bs) (i : Nat) : Bool := decide (128 ≤ atB l i ∧ atB l i < 192)
theorem cont_iff (l : Bs) (i : Nat) : cont l i = true ↔ 128 ≤ atB l i ∧ atB l i < 192 := by simp [cont]
theorem cont_false (l : Bs) (i : Nat) : cont l i = false ↔ ¬ (128 ≤ atB l i ∧ atB l i < 192) := by simp [cont]
theorem cont_lt {l : Bs} {i : Nat} (h : cont l i = true) : i < l.length := by
  rw [cont_iff] at h
  rcases Nat.lt_or_ge i l.length with hh | hh
  · exact hh
  · unfold atB at h; rw [List.getElem?_eq_none hh] at h; simp at h

def val2 (l : Bs) (i : Nat) : Nat := (atB l i - 192) * 64 + (atB l (i + 1) - 128)
def val3 (l : Bs) (i : Nat) : Nat := (atB l i - 224) * 4096 + (atB l (i + 1) - 128) * 64 + (atB l (i + 2) - 128)
def val4 (l : Bs) (i : Nat) : Nat := (atB l i - 240) * 262144 + (atB l (i + 1) - 128) * 4096 + (atB l (i + 2) - 128) * 64 + (atB l (i + 3) - 128)

/-- the code point of the letter that begins at a place, and its length; the length 0: there is none -/
def point (l : Bs) (i : Nat) : Nat × Nat :=
  if l.length ≤ i then (0, 0)
  else if atB l i < 128 then (atB l i, 1)
  else if 192 ≤ atB l i ∧ atB l i < 224 ∧ cont l (i + 1) = true ∧ 128 ≤ val2 l i then (val2 l i, 2)
  else if 224 ≤ atB l i ∧ atB l i < 240 ∧ cont l (i + 1) = true ∧ cont l (i + 2) = true ∧ 2048 ≤ val3 l i ∧ (val3 l i < 55296 ∨ 57343 < val3 l i) then (val3 l i, 3)
  else if 240 ≤ atB l i ∧ atB l i < 248 ∧ cont l (i + 1) = true ∧ cont l (i + 2) = true ∧ cont l (i + 3) = true ∧ 65536 ≤ val4 l i ∧ val4 l i ≤ 1114111 then (val4 l i, 4)
  else (0, 0)


/- The plain words of layer 1 (letters), more: what the chapter's functions compute, on lists of bytes; no program in sight. -/

/-- a letter begins here -/
def okL (l : Bs) : Bool := decide (0 < (point l 0).2)
/-- the size of the first piece -/
def psz (l : Bs) : Nat := max (point l 0).2 1
/-- is it one letter? -/
def validL (l : Bs) : Bool := okL l && decide ((point l 0).2 = l.length)
/-- the pieces of a string -/
def pcs : Nat → Bs → List Bs
  | 0, _ => []
  | k + 1, l => if l = [] then [] else l.take (psz l) :: pcs k (l.drop (psz l))
def pieces (l : Bs) : List Bs := pcs l.length l
theorem atB_drop (l : Bs) (i k : Nat) : atB (l.drop i) k = atB l (i + k) := by unfold atB; rw [List.getElem?_drop]
theorem cont_drop (l : Bs) (i k : Nat) : cont (l.drop i) k = cont l (i + k) := by unfold cont; rw [atB_drop]
theorem point_drop (l : Bs) (i : Nat) : point l i = point (l.drop i) 0 := by
  have e1 : val2 (l.drop i) 0 = val2 l i := by unfold val2; simp only [atB_drop, Nat.zero_add, Nat.add_zero]
  have e2 : val3 (l.drop i) 0 = val3 l i := by unfold val3; simp only [atB_drop, Nat.zero_add, Nat.add_zero]
  have e3 : val4 (l.drop i) 0 = val4 l i := by unfold val4; simp only [atB_drop, Nat.zero_add, Nat.add_zero]
  have e4 : ((l.drop i).length ≤ 0) = (l.length ≤ i) := propext ⟨fun h => by simp at h; omega, fun h => by simp; omega⟩
  unfold point
  rw [e1, e2, e3, atB_drop, cont_drop, cont_drop, cont_drop, Nat.zero_add, Nat.zero_add, Nat.zero_add, Nat.add_zero]
  simp only [e4, Nat.add_zero]
theorem point_le (l : Bs) : (point l 0).2 ≤ l.length ∧ (point l 0).2 ≤ 4 := by
  unfold point
  split
  · simp
  · split
    · simp; omega
    · split
      · rename_i h; have := cont_lt h.2.2.1; simp; omega
      · split
        · rename_i h; have := cont_lt h.2.2.2.1; simp; omega
        · split
          · rename_i h; have := cont_lt h.2.2.2.2.1; simp; omega
          · simp
theorem get_at (s : ByteArray) (k : Nat) : (s.get! k).toNat = atB s.data.toList k := by
  unfold atB
  rcases Nat.lt_or_ge k s.size with h | h
  · rw [Utf8W.get!_of_lt s k h]
    have : s[k]'h = s.data.toList[k]'(by rw [← Lib.size_eq]; exact h) := rfl
    rw [this, List.getElem?_eq_getElem (by rw [← Lib.size_eq]; exact h)]; rfl
  · rw [List.getElem?_eq_none (by rw [← Lib.size_eq]; exact h)]
    cases s with
    | mk d =>
      have : (ByteArray.mk d).get! k = default := by
        show d[k]! = _
        exact getElem!_neg d k (by have : (ByteArray.mk d).size = d.size := rfl; omega)
      rw [this]; rfl
theorem point_1 (l : Bs) : (point l 0).1 ≤ 1114111 := by
  have h0 := atB_lt l 0; have h1 := atB_lt l (0+1); have h2 := atB_lt l (0+2)
  unfold point
  split
  · simp
  · split
    · simp; omega
    · split
      · rename_i h; have := (cont_iff _ _).1 h.2.2.1; simp; unfold val2; omega
      · split
        · rename_i h; have := (cont_iff _ _).1 h.2.2.1; have := (cont_iff _ _).1 h.2.2.2.1; simp; unfold val3; omega
        · split
          · rename_i h; exact h.2.2.2.2.2.2
          · simp
theorem cont_N (l : Bs) (n k : Nat) (hn : l.length = n) : cont l k = true ↔ (k < n ∧ atB l k / 64 = 2) := by
  rw [cont_iff]
  constructor
  · intro h; exact ⟨by rw [← hn]; exact cont_lt ((cont_iff _ _).2 h), by omega⟩
  · intro h; omega
def v2 (b0 b1 : Nat) : Nat := (b0 - 192) * 64 + (b1 - 128)
def v3 (b0 b1 b2 : Nat) : Nat := (b0 - 224) * 4096 + (b1 - 128) * 64 + (b2 - 128)
def v4 (b0 b1 b2 b3 : Nat) : Nat := (b0 - 240) * 262144 + (b1 - 128) * 4096 + (b2 - 128) * 64 + (b3 - 128)
theorem point_cases (l : Bs) (n b0 b1 b2 b3 : Nat) (hn : l.length = n) (hp : 0 < n) (h0 : atB l 0 = b0) (h1 : atB l 1 = b1) (h2 : atB l 2 = b2) (h3 : atB l 3 = b3) :
    (b0 < 128 ∧ point l 0 = (b0, 1)) ∨
    (192 ≤ b0 ∧ b0 < 224 ∧ (1 < n ∧ b1 / 64 = 2) ∧ 128 ≤ v2 b0 b1 ∧ point l 0 = (v2 b0 b1, 2)) ∨
    (224 ≤ b0 ∧ b0 < 240 ∧ (1 < n ∧ b1 / 64 = 2) ∧ (2 < n ∧ b2 / 64 = 2) ∧ 2048 ≤ v3 b0 b1 b2 ∧ (v3 b0 b1 b2 < 55296 ∨ 57343 < v3 b0 b1 b2) ∧ point l 0 = (v3 b0 b1 b2, 3)) ∨
    (240 ≤ b0 ∧ b0 < 248 ∧ (1 < n ∧ b1 / 64 = 2) ∧ (2 < n ∧ b2 / 64 = 2) ∧ (3 < n ∧ b3 / 64 = 2) ∧ 65536 ≤ v4 b0 b1 b2 b3 ∧ v4 b0 b1 b2 b3 ≤ 1114111 ∧ point l 0 = (v4 b0 b1 b2 b3, 4)) ∨
    (¬ b0 < 128 ∧ ¬ (192 ≤ b0 ∧ b0 < 224 ∧ (1 < n ∧ b1 / 64 = 2) ∧ 128 ≤ v2 b0 b1) ∧
      ¬ (224 ≤ b0 ∧ b0 < 240 ∧ (1 < n ∧ b1 / 64 = 2) ∧ (2 < n ∧ b2 / 64 = 2) ∧ 2048 ≤ v3 b0 b1 b2 ∧ (v3 b0 b1 b2 < 55296 ∨ 57343 < v3 b0 b1 b2)) ∧
      ¬ (240 ≤ b0 ∧ b0 < 248 ∧ (1 < n ∧ b1 / 64 = 2) ∧ (2 < n ∧ b2 / 64 = 2) ∧ (3 < n ∧ b3 / 64 = 2) ∧ 65536 ≤ v4 b0 b1 b2 b3 ∧ v4 b0 b1 b2 b3 ≤ 1114111) ∧ point l 0 = (0, 0)) := by
  have k1 := cont_N l n 1 hn
  have k2 := cont_N l n 2 hn
  have k3 := cont_N l n 3 hn
  rw [h1] at k1; rw [h2] at k2; rw [h3] at k3
  have e1 : val2 l 0 = v2 b0 b1 := by unfold val2 v2; rw [h0, h1]
  have e2 : val3 l 0 = v3 b0 b1 b2 := by unfold val3 v3; rw [h0, h1, h2]
  have e3 : val4 l 0 = v4 b0 b1 b2 b3 := by unfold val4 v4; rw [h0, h1, h2, h3]
  have hP : point l 0 = point l 0 := rfl
  conv at hP => rhs; unfold point
  rw [e1, e2, e3, h0, hn, if_neg (show ¬ n ≤ 0 by omega)] at hP
  simp only [Nat.zero_add] at hP
  generalize v2 b0 b1 = V2 at *
  generalize v3 b0 b1 b2 = V3 at *
  generalize v4 b0 b1 b2 b3 = V4 at *
  split at hP
  · exact Or.inl ⟨‹_›, hP⟩
  · split at hP
    · rename_i h; rw [k1] at h; exact Or.inr (Or.inl ⟨h.1, h.2.1, h.2.2.1, h.2.2.2, hP⟩)
    · split at hP
      · rename_i h; rw [k1, k2] at h; exact Or.inr (Or.inr (Or.inl ⟨h.1, h.2.1, h.2.2.1, h.2.2.2.1, h.2.2.2.2.1, h.2.2.2.2.2, hP⟩))
      · split at hP
        · rename_i h; rw [k1, k2, k3] at h; exact Or.inr (Or.inr (Or.inr (Or.inl ⟨h.1, h.2.1, h.2.2.1, h.2.2.2.1, h.2.2.2.2.1, h.2.2.2.2.2.1, h.2.2.2.2.2.2, hP⟩)))
        · rename_i x1 x2 x3 x4
          rw [k1] at x2; rw [k1, k2] at x3; rw [k1, k2, k3] at x4
          exact Or.inr (Or.inr (Or.inr (Or.inr ⟨x1, x2, x3, x4, hP⟩)))
set_option maxRecDepth 100000 in
set_option maxHeartbeats 4000000 in
theorem decN_point (l : Bs) (n : Nat) (hn : l.length = n) (hp : 0 < n) : Lib.decodeN n (atB l 0) (atB l 1) (atB l 2) (atB l 3) = if 0 < (point l 0).2 then point l 0 else (65533, 1) := by
  have h0 := atB_lt l 0; have h1 := atB_lt l 1; have h2 := atB_lt l 2; have h3 := atB_lt l 3
  have hc := point_cases l n _ _ _ _ hn hp rfl rfl rfl rfl
  unfold v2 v3 v4 at hc
  generalize atB l 0 = b0 at *
  generalize atB l 1 = b1 at *
  generalize atB l 2 = b2 at *
  generalize atB l 3 = b3 at *
  rcases hc with ⟨c1, hP⟩ | ⟨c1, c2, c3, c4, hP⟩ | ⟨c1, c2, c3, c4, c5, c6, hP⟩ | ⟨c1, c2, c3, c4, c5, c6, c7, hP⟩ | ⟨c1, c2, c3, c4, hP⟩
  · rw [hP]; unfold Lib.decodeN; rw [if_pos c1]; rfl
  · rw [hP]; unfold Lib.decodeN
    rw [if_neg (by omega), if_pos ⟨by omega, c3⟩, if_pos (by omega), if_pos (by simp)]
    exact Prod.ext (by simp; omega) rfl
  · rw [hP]; unfold Lib.decodeN
    rw [if_neg (by omega), if_neg (by omega), if_pos ⟨by omega, c3, c4⟩, if_pos (by omega), if_pos (by simp)]
    exact Prod.ext (by simp; omega) rfl
  · rw [hP]; unfold Lib.decodeN
    rw [if_neg (by omega), if_neg (by omega), if_neg (by omega), if_pos ⟨by omega, c3, c4, c5⟩, if_pos (by omega), if_pos (by simp)]
    exact Prod.ext (by simp; omega) rfl
  · rw [hP, if_neg (by simp)]; unfold Lib.decodeN
    rw [if_neg c1]
    split
    · rw [if_neg (by omega)]
    · split
      · rw [if_neg (by omega)]
      · split
        · rw [if_neg (by omega)]
        · rfl
/-- the first letter hangs on its own bytes alone -/
theorem point_pre (m l : Bs) (hk : ∀ k, k < (point l 0).2 → atB m k = atB l k) (hm : (point l 0).2 ≤ m.length) (h2 : 0 < (point l 0).2) (hl : (point l 0).2 ≤ l.length) : point m 0 = point l 0 := by
  rcases point_cases l _ _ _ _ _ rfl (by omega) rfl rfl rfl rfl with ⟨c1, hP⟩ | ⟨c1, c2, c3, c4, hP⟩ | ⟨c1, c2, c3, c4, c5, c6, hP⟩ | ⟨c1, c2, c3, c4, c5, c6, c7, hP⟩ | ⟨c1, c2, c3, c4, hP⟩
  · rw [hP] at hk hm ⊢; simp only at hk hm
    rw [← hk 0 (by omega)] at c1 ⊢
    rcases point_cases m _ _ _ _ _ rfl (by omega) rfl rfl rfl rfl with ⟨d1, hQ⟩ | ⟨d1, d2, d3, d4, hQ⟩ | ⟨d1, d2, d3, d4, d5, d6, hQ⟩ | ⟨d1, d2, d3, d4, d5, d6, d7, hQ⟩ | ⟨d1, d2, d3, d4, hQ⟩
    · exact hQ
    all_goals (exfalso; omega)
  · rw [hP] at hk hm ⊢; simp only at hk hm
    have e0 := hk 0 (by omega); have e1 := hk 1 (by omega)
    rw [← e0, ← e1] at c4 ⊢; rw [← e0] at c1 c2; rw [← e1] at c3
    rcases point_cases m _ _ _ _ _ rfl (by omega) rfl rfl rfl rfl with ⟨d1, hQ⟩ | ⟨d1, d2, d3, d4, hQ⟩ | ⟨d1, d2, d3, d4, d5, d6, hQ⟩ | ⟨d1, d2, d3, d4, d5, d6, d7, hQ⟩ | ⟨d1, d2, d3, d4, hQ⟩
    · exfalso; omega
    · exact hQ
    all_goals (exfalso; omega)
  · rw [hP] at hk hm ⊢; simp only at hk hm
    have e0 := hk 0 (by omega); have e1 := hk 1 (by omega); have e2 := hk 2 (by omega)
    rw [← e0, ← e1, ← e2] at c5 c6 ⊢; rw [← e0] at c1 c2; rw [← e1] at c3; rw [← e2] at c4
    rcases point_cases m _ _ _ _ _ rfl (by omega) rfl rfl rfl rfl with ⟨d1, hQ⟩ | ⟨d1, d2, d3, d4, hQ⟩ | ⟨d1, d2, d3, d4, d5, d6, hQ⟩ | ⟨d1, d2, d3, d4, d5, d6, d7, hQ⟩ | ⟨d1, d2, d3, d4, hQ⟩
    · exfalso; omega
    · exfalso; omega
    · exact hQ
    all_goals (exfalso; omega)
  · rw [hP] at hk hm ⊢; simp only at hk hm
    have e0 := hk 0 (by omega); have e1 := hk 1 (by omega); have e2 := hk 2 (by omega); have e3 := hk 3 (by omega)
    rw [← e0, ← e1, ← e2, ← e3] at c6 c7 ⊢; rw [← e0] at c1 c2; rw [← e1] at c3; rw [← e2] at c4; rw [← e3] at c5
    rcases point_cases m _ _ _ _ _ rfl (by omega) rfl rfl rfl rfl with ⟨d1, hQ⟩ | ⟨d1, d2, d3, d4, hQ⟩ | ⟨d1, d2, d3, d4, d5, d6, hQ⟩ | ⟨d1, d2, d3, d4, d5, d6, d7, hQ⟩ | ⟨d1, d2, d3, d4, hQ⟩
    · exfalso; omega
    · exfalso; omega
    · exfalso; omega
    · exact hQ
    · exfalso; omega
  · rw [hP] at h2; simp at h2
theorem decodeGo_eq (s : ByteArray) : Lib.decodeGo s = if s.size = 0 then (65533, 0) else if okL s.data.toList = true then point s.data.toList 0 else (65533, 1) := by
  unfold Lib.decodeGo
  by_cases h : s.size = 0
  · rw [if_pos h, if_pos h]
  · rw [if_neg h, if_neg h, Lib.decode_at, get_at, get_at, get_at, get_at]
    have := decN_point s.data.toList (s.size - 0) (by rw [← Lib.size_eq]; rfl) (by omega)
    simp only [Nat.zero_add]
    rw [this]
    simp only [okL, decide_eq_true_eq]
theorem point_one {l : Bs} (h : (point l 0).2 = 1) : (point l 0).1 < 128 := by
  rcases Nat.eq_zero_or_pos l.length with h0 | h0
  · have := (point_le l).1; omega
  · rcases point_cases l _ _ _ _ _ rfl h0 rfl rfl rfl rfl with ⟨c1, hP⟩ | ⟨c1, c2, c3, c4, hP⟩ | ⟨c1, c2, c3, c4, c5, c6, hP⟩ | ⟨c1, c2, c3, c4, c5, c6, c7, hP⟩ | ⟨c1, c2, c3, c4, hP⟩ <;> rw [hP] at h ⊢ <;> simp at h ⊢
    exact c1
theorem okL_nil : okL [] = false := rfl
theorem nil_of_size {s : ByteArray} (h : s.size = 0) : s.data.toList = [] := List.eq_nil_of_length_eq_zero (by rw [← Lib.size_eq]; exact h)
theorem okL_eq (s : ByteArray) : okL s.data.toList = (decide ((Lib.decodeGo s).1 ≠ 65533) || decide (1 < (Lib.decodeGo s).2)) := by
  rw [decodeGo_eq]
  by_cases h : s.size = 0
  · rw [if_pos h, nil_of_size h]; rfl
  · rw [if_neg h]
    by_cases hk : okL s.data.toList = true
    · rw [if_pos hk, hk]
      have h2 : 0 < (point s.data.toList 0).2 := by simpa [okL] using hk
      rcases Nat.lt_or_ge 1 (point s.data.toList 0).2 with h3 | h3
      · simp [h3]
      · have := point_one (l := s.data.toList) (by omega)
        have : (point s.data.toList 0).1 ≠ 65533 := by omega
        simp [this]
    · rw [if_neg hk]; simpa using hk
theorem valid_eq (s : ByteArray) : validL s.data.toList = (okL s.data.toList && decide (0 < (Lib.decodeGo s).2) && decide ((Lib.decodeGo s).2 = s.size)) := by
  rw [decodeGo_eq]
  by_cases h : s.size = 0
  · rw [if_pos h, nil_of_size h]; rfl
  · rw [if_neg h]
    by_cases hk : okL s.data.toList = true
    · have h2 : 0 < (point s.data.toList 0).2 := by simpa [okL] using hk
      rw [if_pos hk]; unfold validL; rw [hk, ← Lib.size_eq]; simp [h2]
    · unfold validL; simp [hk]
theorem decode_valid {s : ByteArray} (h : validL s.data.toList = true) : Lib.decodeGo s = point s.data.toList 0 := by
  have hk : okL s.data.toList = true := by unfold validL at h; simp at h; exact h.1
  rw [decodeGo_eq, if_neg, if_pos hk]
  intro h0; rw [nil_of_size h0] at hk; cases hk
theorem psz_bd (l : Bs) (h : l ≠ []) : 1 ≤ psz l ∧ psz l ≤ l.length := by
  have h1 := (point_le l).1
  have h2 := List.length_pos_iff.2 h
  unfold psz; omega
theorem psz_dec (s : ByteArray) (h : ¬ s.size = 0) : (Lib.decodeGo s).2 = psz s.data.toList := by
  rw [decodeGo_eq, if_neg h]
  unfold psz
  by_cases hk : okL s.data.toList = true
  · have h2 : 0 < (point s.data.toList 0).2 := by simpa [okL] using hk
    rw [if_pos hk]; omega
  · have h2 : ¬ 0 < (point s.data.toList 0).2 := by simpa [okL] using hk
    rw [if_neg hk]; simp only []; omega
theorem dec_bd (s : ByteArray) (h : ¬ s.size = 0) : 1 ≤ (Lib.decodeGo s).2 ∧ (Lib.decodeGo s).2 ≤ s.size := by
  rw [psz_dec s h, Lib.size_eq]
  exact psz_bd _ (fun e => h (by rw [Lib.size_eq, e]; rfl))
theorem dec_ff (s : ByteArray) (h : okL s.data.toList = false) : (Lib.decodeGo s).1 = 65533 := by
  rw [decodeGo_eq, h]
  by_cases h0 : s.size = 0
  · rw [if_pos h0]
  · rw [if_neg h0]; rfl
theorem dec_rune (s : ByteArray) : (Lib.decodeGo s).1 ≤ 1114111 := by
  rw [decodeGo_eq]
  split
  · simp
  · split
    · exact point_1 _
    · simp
theorem dec_at (s : ByteArray) (i : Nat) (h : i < s.size) : Utf8.decode s i = Lib.decodeGo (s.extract i s.size) := by
  have e : (s.extract i s.size).data.toList = s.data.toList.drop i := by
    rw [Lib.extract_data, List.take_of_length_le]
    rw [List.length_drop, ← Lib.size_eq]; exact Nat.le_refl _
  have hs : (s.extract i s.size).size = s.size - i := by rw [Lib.size_eq, e, List.length_drop, ← Lib.size_eq]
  rw [decodeGo_eq, if_neg (by omega), e]
  rw [Lib.decode_at, get_at, get_at, get_at, get_at]
  have := decN_point (s.data.toList.drop i) (s.size - i) (by rw [List.length_drop, ← Lib.size_eq]) (by omega)
  rw [atB_drop, atB_drop, atB_drop, atB_drop, Nat.add_zero] at this
  rw [this]
  simp only [okL, decide_eq_true_eq]
/-! ### pieces -/
theorem pcs_enough : ∀ (k : Nat) (l : Bs), l.length ≤ k → pcs k l = pcs l.length l
  | 0, l, h => by have : l = [] := List.eq_nil_of_length_eq_zero (by omega); subst this; rfl
  | k + 1, [], h => rfl
  | k + 1, x :: r, h => by
    have hb := psz_bd (x :: r) (by simp)
    simp only [List.length_cons] at h hb
    show (if x :: r = [] then [] else (x :: r).take (psz (x :: r)) :: pcs k ((x :: r).drop (psz (x :: r)))) = (if x :: r = [] then [] else (x :: r).take (psz (x :: r)) :: pcs r.length ((x :: r).drop (psz (x :: r))))
    rw [if_neg (by simp), if_neg (by simp), pcs_enough k _ (by simp; omega), pcs_enough r.length _ (by simp; omega)]
theorem pieces_nil : pieces [] = [] := rfl
theorem pieces_step (l : Bs) (h : l ≠ []) : pieces l = l.take (psz l) :: pieces (l.drop (psz l)) := by
  have hb := psz_bd l h
  have hl := List.length_pos_iff.2 h
  unfold pieces
  obtain ⟨k, hk⟩ : ∃ k, l.length = k + 1 := ⟨l.length - 1, by omega⟩
  rw [hk]
  show (if l = [] then [] else l.take (psz l) :: pcs k (l.drop (psz l))) = _
  rw [if_neg h, pcs_enough k _ (by simp; omega)]
theorem pieces_ind {P : Bs → Prop} (h0 : P []) (h1 : ∀ l, l ≠ [] → P (l.drop (psz l)) → P l) : ∀ l, P l := by
  have key : ∀ (k : Nat) (l : Bs), l.length ≤ k → P l := by
    intro k
    induction k with
    | zero => intro l hl; rw [List.eq_nil_of_length_eq_zero (Nat.le_zero.1 hl)]; exact h0
    | succ k ih =>
      intro l hl
      by_cases he : l = []
      · rw [he]; exact h0
      · exact h1 l he (ih _ (by have := psz_bd l he; simp; omega))
  exact fun l => key _ l (Nat.le_refl _)
theorem pieces_flat (l : Bs) : (pieces l).flatten = l := by
  induction l using pieces_ind with
  | h0 => rfl
  | h1 l h ih => rw [pieces_step l h, List.flatten_cons, ih, List.take_append_drop]
theorem pieces_len (l : Bs) : (pieces l).length ≤ l.length := by
  induction l using pieces_ind with
  | h0 => simp [pieces_nil]
  | h1 l h ih => rw [pieces_step l h, List.length_cons]; have := psz_bd l h; rw [List.length_drop] at ih; omega
theorem pieces_ne (l : Bs) : ∀ p ∈ pieces l, p ≠ [] := by
  induction l using pieces_ind with
  | h0 => intro p hp; rw [pieces_nil] at hp; cases hp
  | h1 l h ih =>
    intro p hp
    rw [pieces_step l h] at hp
    rcases List.mem_cons.1 hp with rfl | hp
    · have hb := psz_bd l h
      intro e; have := congrArg List.length e; rw [List.length_take, List.length_nil] at this; omega
    · exact ih p hp
/-- a letter's bytes alone tell it -/
theorem point_take (l : Bs) (h : okL l = true) : point (l.take (psz l)) 0 = point l 0 ∧ psz l = (point l 0).2 := by
  have h2 : 0 < (point l 0).2 := by simpa [okL] using h
  have hps : psz l = (point l 0).2 := by unfold psz; omega
  refine ⟨?_, hps⟩
  rw [hps]
  exact point_pre (l.take (point l 0).2) l (fun k hk => by unfold atB; rw [List.getElem?_take_of_lt hk]) (by have := (point_le l).1; simp; omega) h2 (point_le l).1
theorem ar2 (a b : Nat) (h1 : 192 ≤ a) (h3 : 128 ≤ b) (h4 : b < 192) : 192 + ((a - 192) * 64 + (b - 128)) / 64 = a ∧ 128 + ((a - 192) * 64 + (b - 128)) % 64 = b := by
  obtain ⟨x, rfl⟩ : ∃ x, a = 192 + x := ⟨a - 192, by omega⟩
  obtain ⟨y, rfl⟩ : ∃ y, b = 128 + y := ⟨b - 128, by omega⟩
  simp only [Nat.add_sub_cancel_left]
  omega
theorem ar3 (a b c : Nat) (h1 : 224 ≤ a) (h3 : 128 ≤ b) (h4 : b < 192) (h5 : 128 ≤ c) (h6 : c < 192) :
    224 + ((a - 224) * 4096 + (b - 128) * 64 + (c - 128)) / 4096 = a ∧ 128 + ((a - 224) * 4096 + (b - 128) * 64 + (c - 128)) / 64 % 64 = b ∧ 128 + ((a - 224) * 4096 + (b - 128) * 64 + (c - 128)) % 64 = c := by
  obtain ⟨x, rfl⟩ : ∃ x, a = 224 + x := ⟨a - 224, by omega⟩
  obtain ⟨y, rfl⟩ : ∃ y, b = 128 + y := ⟨b - 128, by omega⟩
  obtain ⟨z, rfl⟩ : ∃ z, c = 128 + z := ⟨c - 128, by omega⟩
  simp only [Nat.add_sub_cancel_left]
  omega
theorem ar4 (a b c d : Nat) (h1 : 240 ≤ a) (h3 : 128 ≤ b) (h4 : b < 192) (h5 : 128 ≤ c) (h6 : c < 192) (h7 : 128 ≤ d) (h8 : d < 192) :
    240 + ((a - 240) * 262144 + (b - 128) * 4096 + (c - 128) * 64 + (d - 128)) / 262144 = a ∧ 128 + ((a - 240) * 262144 + (b - 128) * 4096 + (c - 128) * 64 + (d - 128)) / 4096 % 64 = b ∧
    128 + ((a - 240) * 262144 + (b - 128) * 4096 + (c - 128) * 64 + (d - 128)) / 64 % 64 = c ∧ 128 + ((a - 240) * 262144 + (b - 128) * 4096 + (c - 128) * 64 + (d - 128)) % 64 = d := by
  obtain ⟨x, rfl⟩ : ∃ x, a = 240 + x := ⟨a - 240, by omega⟩
  obtain ⟨y, rfl⟩ : ∃ y, b = 128 + y := ⟨b - 128, by omega⟩
  obtain ⟨z, rfl⟩ : ∃ z, c = 128 + z := ⟨c - 128, by omega⟩
  obtain ⟨u, rfl⟩ : ∃ u, d = 128 + u := ⟨d - 128, by omega⟩
  simp only [Nat.add_sub_cancel_left]
  omega
theorem list2 {a b c d : Nat} (h : a = c) (h' : b = d) : ([UInt8.ofNat a, UInt8.ofNat b] : Bs) = [UInt8.ofNat c, UInt8.ofNat d] := by rw [h, h']
theorem list3 {a b x c d y : Nat} (h : a = c) (h' : b = d) (h2 : x = y) : ([UInt8.ofNat a, UInt8.ofNat b, UInt8.ofNat x] : Bs) = [UInt8.ofNat c, UInt8.ofNat d, UInt8.ofNat y] := by rw [h, h', h2]
theorem list4 {a b x z c d y u : Nat} (h : a = c) (h' : b = d) (h2 : x = y) (h3 : z = u) : ([UInt8.ofNat a, UInt8.ofNat b, UInt8.ofNat x, UInt8.ofNat z] : Bs) = [UInt8.ofNat c, UInt8.ofNat d, UInt8.ofNat y, UInt8.ofNat u] := by rw [h, h', h2, h3]
theorem encode_point (l : Bs) (h : okL l = true) : (Utf8.encode ((point l 0).1 : Int)).data.toList = l.take (psz l) := by
  have h2 : 0 < (point l 0).2 := by simpa [okL] using h
  have hps : psz l = (point l 0).2 := by unfold psz; omega
  have hle := (point_le l).1
  rw [hps]
  have tk : ∀ n, n ≤ l.length → l.take n = (List.range n).map fun i => UInt8.ofNat (atB l i) := by
    intro n hn
    apply List.ext_getElem
    · simp; omega
    · intro i h1 h2
      simp at h1
      simp [atB, show i < l.length by omega]
  rw [tk _ hle]
  have b0 := atB_lt l 0; have b1 := atB_lt l 1; have b2 := atB_lt l 2; have b3 := atB_lt l 3
  rcases point_cases l _ _ _ _ _ rfl (by omega) rfl rfl rfl rfl with ⟨c1, hP⟩ | ⟨c1, c2, c3, c4, hP⟩ | ⟨c1, c2, c3, c4, c5, c6, hP⟩ | ⟨c1, c2, c3, c4, c5, c6, c7, hP⟩ | ⟨c1, c2, c3, c4, hP⟩
  · rw [hP]
    have hv : Utf8.valid ((atB l 0 : Nat) : Int) = true := by simp [Utf8.valid]; omega
    unfold Utf8.encode
    simp [hv, c1]
  · rw [hP]
    unfold v2 at *
    have hv : Utf8.valid ((((atB l 0 - 192) * 64 + (atB l 1 - 128) : Nat)) : Int) = true := by simp only [Utf8.valid, Bool.or_eq_true, Bool.and_eq_true, decide_eq_true_eq]; omega
    unfold Utf8.encode
    simp only [hv, if_true, Int.toNat_natCast]
    rw [if_neg (by omega), if_pos (by omega)]
    have q := ar2 (atB l 0) (atB l 1) c1 (by omega) (by omega)
    exact list2 q.1 q.2
  · rw [hP]
    unfold v3 at *
    have hv : Utf8.valid ((((atB l 0 - 224) * 4096 + (atB l 1 - 128) * 64 + (atB l 2 - 128) : Nat)) : Int) = true := by simp only [Utf8.valid, Bool.or_eq_true, Bool.and_eq_true, decide_eq_true_eq]; omega
    unfold Utf8.encode
    simp only [hv, if_true, Int.toNat_natCast]
    rw [if_neg (by omega), if_neg (by omega), if_pos (by omega)]
    have q := ar3 (atB l 0) (atB l 1) (atB l 2) c1 (by omega) (by omega) (by omega) (by omega)
    exact list3 q.1 q.2.1 q.2.2
  · rw [hP]
    unfold v4 at *
    have hv : Utf8.valid ((((atB l 0 - 240) * 262144 + (atB l 1 - 128) * 4096 + (atB l 2 - 128) * 64 + (atB l 3 - 128) : Nat)) : Int) = true := by simp only [Utf8.valid, Bool.or_eq_true, Bool.and_eq_true, decide_eq_true_eq]; omega
    unfold Utf8.encode
    simp only [hv, if_true, Int.toNat_natCast]
    rw [if_neg (by omega), if_neg (by omega), if_neg (by omega)]
    have q := ar4 (atB l 0) (atB l 1) (atB l 2) (atB l 3) c1 (by omega) (by omega) (by omega) (by omega) (by omega) (by omega)
    exact list4 q.1 q.2.1 q.2.2.1 q.2.2.2
  · rw [hP] at h2; simp at h2
def ctlB (r : Int) : Bool := decide (r < 32 ∨ r = 127)
/-- a hexadecimal digit -/
def hexd (k : Nat) : UInt8 := if k < 10 then UInt8.ofNat (48 + k) else UInt8.ofNat (87 + k)
def hexL (c : UInt8) : Bs := [37, 120, hexd (c.toNat / 16), hexd (c.toNat % 16)]
/-- the table of the classes, and what a scan of it gives -/
def spans : List (Int × Int × Int) := [(97, 122, 1), (181, 181, 1), (223, 246, 1), (248, 255, 1), (65, 90, 2), (192, 214, 2), (216, 222, 2), (48, 57, 3), (9, 13, 4), (32, 32, 4), (160, 160, 4), (33, 126, 5)]
def scan : List (Int × Int × Int) → Int → Int
  | [], _ => 6
  | (a, b, c) :: t, r => if a ≤ r ∧ r ≤ b then c else scan t r
/-- the class of a code point -/
def clsOf (r : Int) : Int := scan spans r
def spA (k : Nat) : Int := (spans.getD k (0, 0, 0)).1
def spB (k : Nat) : Int := (spans.getD k (0, 0, 0)).2.1
def spC (k : Nat) : Int := (spans.getD k (0, 0, 0)).2.2
theorem scan_drop (k : Nat) (hk : k < 12) (r : Int) : scan (spans.drop k) r = if spA k ≤ r ∧ r ≤ spB k then spC k else scan (spans.drop (k + 1)) r := by
  match k, hk with
  | 0, _ | 1, _ | 2, _ | 3, _ | 4, _ | 5, _ | 6, _ | 7, _ | 8, _ | 9, _ | 10, _ | 11, _ => rfl
theorem sp_bd (k : Nat) : 0 ≤ spA k ∧ spA k ≤ 255 ∧ 0 ≤ spB k ∧ spB k ≤ 255 ∧ 0 ≤ spC k ∧ spC k ≤ 6 := by
  match k with
  | 0 | 1 | 2 | 3 | 4 | 5 | 6 | 7 | 8 | 9 | 10 | 11 => decide
  | k + 12 => simp [spA, spB, spC, spans]
def classL (l : Bs) : Int := if validL l = true then clsOf (point l 0).1 else 0
/-- how Quote writes a piece -/
def unitQ (t : Bs) (r : Int) (ok : Bool) : Bs :=
  if ok = false ∨ ctlB r = true then hexL (t.headD 0)
  else if clsOf r = 4 ∨ clsOf r = 5 then 37 :: t else t
/-- how Quote writes a piece, by the piece alone -/
def unitP (t : Bs) : Bs :=
  if validL t = false ∨ ctlB (point t 0).1 = true then hexL (t.headD 0)
  else if clsOf (point t 0).1 = 4 ∨ clsOf (point t 0).1 = 5 then 37 :: t else t
def quoteP (l : Bs) : Bs := (pieces l).flatMap unitP
def quoteL (l : Bs) : Bs := if l = [] then [37, 48] else quoteP l
theorem unitQ_len (t : Bs) (r : Int) (k : Bool) : (unitQ t r k).length ≤ 4 + t.length := by
  unfold unitQ
  split
  · simp [hexL]
  · split <;> simp <;> omega
theorem first_ext (s : ByteArray) (h : ¬ s.size = 0) : (s.extract 0 (Lib.decodeGo s).2).data.toList = s.data.toList.take (psz s.data.toList) ∧ (s.extract (Lib.decodeGo s).2 s.size).data.toList = s.data.toList.drop (psz s.data.toList) ∧ s.data.toList ≠ [] := by
  rw [psz_dec s h, Lib.extract_data, Lib.extract_data]
  refine ⟨by rw [List.drop_zero, Nat.sub_zero], ?_, fun e => h (by rw [Lib.size_eq, e]; rfl)⟩
  rw [List.take_of_length_le]
  rw [List.length_drop, ← Lib.size_eq]; exact Nat.le_refl _
theorem head_take (l : Bs) (n : Nat) (h : 0 < n) : (l.take n).headD 0 = l.headD 0 := by
  cases l with
  | nil => simp
  | cons x r => cases n with
    | zero => omega
    | succ n => rfl
/-- the first piece: valid or one stray byte -/
theorem piece_first (l : Bs) (h : l ≠ []) : validL (l.take (psz l)) = okL l ∧ (okL l = true → point (l.take (psz l)) 0 = point l 0) := by
  by_cases hk : okL l = true
  · obtain ⟨h1, h2⟩ := point_take l hk
    have hb := psz_bd l h
    refine ⟨?_, fun _ => h1⟩
    unfold validL okL
    rw [h1, List.length_take, ← h2]
    have e : min (psz l) l.length = psz l := by omega
    rw [e]; simp
  · have hz : (point l 0).2 = 0 := by
      have : ¬ 0 < (point l 0).2 := by simpa [okL] using hk
      omega
    have hp : psz l = 1 := by unfold psz; omega
    refine ⟨?_, fun h => absurd h hk⟩
    have hf : okL l = false := by simpa using hk
    rw [hf, hp]
    obtain ⟨x, r, rfl⟩ : ∃ x r, l = x :: r := by
      cases l with
      | nil => exact absurd rfl h
      | cons x r => exact ⟨x, r, rfl⟩
    -- one byte alone is no letter
    unfold validL
    have hx : okL [x] = false := by
      have hb : ¬ atB (x :: r) 0 < 128 := by
        intro hlt
        rcases point_cases (x :: r) _ _ _ _ _ rfl (by simp) rfl rfl rfl rfl with ⟨c1, hP⟩ | ⟨c1, c2, c3, c4, hP⟩ | ⟨c1, c2, c3, c4, c5, c6, hP⟩ | ⟨c1, c2, c3, c4, c5, c6, c7, hP⟩ | ⟨c1, c2, c3, c4, hP⟩
        · rw [hP] at hz; simp at hz
        · omega
        · omega
        · omega
        · exact c1 hlt
      have he : atB (x :: r) 0 = atB [x] 0 := rfl
      rw [he] at hb
      rcases point_cases [x] 1 _ _ _ _ rfl (by simp) rfl rfl rfl rfl with ⟨c1, hP⟩ | ⟨c1, c2, c3, c4, hP⟩ | ⟨c1, c2, c3, c4, c5, c6, hP⟩ | ⟨c1, c2, c3, c4, c5, c6, c7, hP⟩ | ⟨c1, c2, c3, c4, hP⟩
      · exact absurd c1 hb
      · omega
      · omega
      · omega
      · unfold okL; rw [hP]; rfl
    show (okL [x] && _) = false
    rw [hx]; rfl
theorem quote_step (s : ByteArray) (h : ¬ s.size = 0) :
    quoteP s.data.toList = unitQ (s.extract 0 (Lib.decodeGo s).2).data.toList (Lib.decodeGo s).1 (okL s.data.toList) ++ quoteP (s.extract (Lib.decodeGo s).2 s.size).data.toList := by
  obtain ⟨e1, e2, hne⟩ := first_ext s h
  rw [e1, e2]
  obtain ⟨hv, hp⟩ := piece_first s.data.toList hne
  unfold quoteP
  rw [pieces_step _ hne, List.flatMap_cons]
  congr 1
  unfold unitP unitQ
  rw [hv]
  by_cases hk : okL s.data.toList = true
  · rw [hk, hp hk]
    have : Lib.decodeGo s = point s.data.toList 0 := by rw [decodeGo_eq, if_neg h, if_pos hk]
    rw [this]
  · have hf : okL s.data.toList = false := by simpa using hk
    rw [hf, if_pos (Or.inl rfl), if_pos (Or.inl rfl)]
/-- the change of a code point's case -/
def lowRC : Int := 2
def lowRD (_ : Int) : Prop := True
def lowRE (r : Int) : Int := r + 32
def upRC : Int := 1
def upRD (r : Int) : Prop := r ≠ 181 ∧ r ≠ 223 ∧ r ≠ 255
def upRE (r : Int) : Int := r - 32
instance (r : Int) : Decidable (lowRD r) := by unfold lowRD; infer_instance
instance (r : Int) : Decidable (upRD r) := by unfold upRD; infer_instance
def lowR (r : Int) : Int := if clsOf r = lowRC ∧ lowRD r then lowRE r else r
def upR (r : Int) : Int := if clsOf r = upRC ∧ upRD r then upRE r else r
theorem encode_le (r : Int) : (Utf8.encode r).size ≤ 4 := by
  unfold Utf8.encode
  simp only []
  generalize (if Utf8.valid r = true then r.toNat else Utf8.runeError) = c
  repeat' split
  all_goals exact Nat.le_of_ble_eq_true rfl
/-- the pieces changed -/
def changeP (g : Int → Int) (t : Bs) : Bs := if validL t = true then (Utf8.encode (g (point t 0).1)).data.toList else t
def changeL (g : Int → Int) (l : Bs) : Bs := (pieces l).flatMap (changeP g)
theorem change_step (g : Int → Int) (s : ByteArray) (h : ¬ s.size = 0) :
    changeL g s.data.toList = (if okL s.data.toList = true then (Utf8.encode (g (Lib.decodeGo s).1)).data.toList else (s.extract 0 (Lib.decodeGo s).2).data.toList) ++ changeL g (s.extract (Lib.decodeGo s).2 s.size).data.toList := by
  obtain ⟨e1, e2, hne⟩ := first_ext s h
  rw [e1, e2]
  obtain ⟨hv, hp⟩ := piece_first s.data.toList hne
  unfold changeL
  rw [pieces_step _ hne, List.flatMap_cons]
  congr 1
  unfold changeP
  rw [hv]
  by_cases hk : okL s.data.toList = true
  · rw [if_pos hk, if_pos hk, hp hk]
    have : Lib.decodeGo s = point s.data.toList 0 := by rw [decodeGo_eq, if_neg h, if_pos hk]
    rw [this]
  · rw [if_neg hk, if_neg hk]
/-- the offset of the first stray byte -/
def strayAt : List Bs → Nat → Option Nat
  | [], _ => none
  | p :: r, i => if validL p = true then strayAt r (i + p.length) else some i
/-- what Split returns: letters, offset, error -/
def splitR (l : Bs) : List Bs × Nat × Nat :=
  if 16384 < l.length then ([], 0, 2)
  else match strayAt (pieces l) 0 with
    | some i => ([], i, 3)
    | none => (pieces l, 0, 0)
def splitL (l : Bs) : List Bs := (splitR l).1
def splitAt (l : Bs) : Nat := (splitR l).2.1
def splitE (l : Bs) : Nat := (splitR l).2.2
theorem split_more {l : Bs} {pos n : Nat} {done : List Bs} (hp : n = psz (l.drop pos)) (hk : okL (l.drop pos) = true) (hlt : pos < l.length) (hn : pos + n ≤ l.length)
    (h : pieces l = done ++ pieces (l.drop pos) ∧ (∀ p ∈ done, validL p = true) ∧ done.flatten.length = pos) :
    pieces l = (done ++ [(l.drop pos).take n]) ++ pieces (l.drop (pos + n)) ∧ (∀ p ∈ done ++ [(l.drop pos).take n], validL p = true) ∧ (done ++ [(l.drop pos).take n]).flatten.length = pos + n := by
  have hne : l.drop pos ≠ [] := by intro e; have := congrArg List.length e; simp at this; omega
  obtain ⟨h1, h2, h3⟩ := h
  refine ⟨?_, ?_, ?_⟩
  · rw [h1, pieces_step _ hne, ← hp, List.drop_drop]; simp
  · intro p hm
    rcases List.mem_append.1 hm with hm | hm
    · exact h2 p hm
    · rw [List.mem_singleton.1 hm, hp, (piece_first _ hne).1, hk]
  · rw [List.flatten_append, List.length_append, h3]; simp; omega
theorem stray_app (d r : List Bs) : ∀ i, (∀ p ∈ d, validL p = true) → strayAt (d ++ r) i = strayAt r (i + d.flatten.length) := by
  induction d with
  | nil => intro i _; simp
  | cons p d ih =>
    intro i h
    simp only [List.cons_append, strayAt]
    rw [if_pos (h p (by simp)), ih _ fun q hq => h q (by simp [hq])]
    simp [Nat.add_assoc]
theorem split_stray {l : Bs} {pos : Nat} {done : List Bs} (hl : l.length ≤ 16384) (hk : okL (l.drop pos) = false)
    (h : pieces l = done ++ pieces (l.drop pos) ∧ (∀ p ∈ done, validL p = true) ∧ done.flatten.length = pos) (hlt : pos < l.length) : splitL l = [] ∧ splitAt l = pos ∧ splitE l = 3 := by
  have hne : l.drop pos ≠ [] := by intro e; have := congrArg List.length e; simp at this; omega
  obtain ⟨h1, h2, h3⟩ := h
  have e : splitR l = ([], pos, 3) := by
    unfold splitR
    rw [if_neg (by omega), h1, stray_app _ _ _ h2, pieces_step _ hne]
    simp only [strayAt]
    rw [if_neg (by rw [(piece_first _ hne).1, hk]; simp), h3]
    simp
  unfold splitL splitAt splitE
  rw [e]; exact ⟨rfl, rfl, rfl⟩
theorem split_all {l : Bs} {pos : Nat} {done : List Bs} (hl : l.length ≤ 16384)
    (h : pieces l = done ++ pieces (l.drop pos) ∧ (∀ p ∈ done, validL p = true) ∧ done.flatten.length = pos) (hlt : l.length ≤ pos) : splitL l = done ∧ splitAt l = 0 ∧ splitE l = 0 := by
  obtain ⟨h1, h2, h3⟩ := h
  rw [List.drop_of_length_le hlt, pieces_nil, List.append_nil] at h1
  have e : splitR l = (done, 0, 0) := by
    unfold splitR
    have := stray_app done [] 0 h2
    rw [List.append_nil] at this
    rw [if_neg (by omega), h1, this]
    rfl
  unfold splitL splitAt splitE
  rw [e]; exact ⟨rfl, rfl, rfl⟩
/-- the length of the first k pieces together -/
def offK (l : List Bs) (k : Nat) : Nat := (l.take k).flatten.length
theorem offK_le (l : List Bs) (k : Nat) : offK l k ≤ l.flatten.length := by
  unfold offK
  conv => rhs; rw [← List.take_append_drop k l, List.flatten_append, List.length_append]
  omega
theorem offK_succ (l : List Bs) (k : Nat) (h : k < l.length) : offK l (k + 1) = offK l k + l[k].length := by
  unfold offK
  rw [List.take_succ_eq_append_getElem h, List.flatten_append, List.length_append]; simp
theorem offK_zero (l : List Bs) : offK l 0 = 0 := rfl
theorem stray_none (l : List Bs) : ∀ (i : Nat), (∀ p ∈ l, validL p = true) → strayAt l i = none := by
  induction l with
  | nil => intro i _; rfl
  | cons p r ih => intro i h; simp only [strayAt]; rw [if_pos (h p (by simp))]; exact ih _ fun q hq => h q (by simp [hq])
theorem stray_at (l : List Bs) : ∀ (i k : Nat) (hk : k < l.length), (∀ p ∈ l.take k, validL p = true) → validL l[k] = false → strayAt l i = some (i + (l.take k).flatten.length) := by
  induction l with
  | nil => intro i k hk; simp at hk
  | cons p r ih =>
    intro i k hk h hf
    cases k with
    | zero => simp only [List.getElem_cons_zero] at hf; simp [strayAt, hf]
    | succ k =>
      simp only [strayAt]
      rw [if_pos (h p (by simp)), ih (i + p.length) k (by simpa using hk) (fun q hq => h q (by simp [hq])) (by simpa using hf)]
      simp; omega
theorem stray_some (l : List Bs) (k : Nat) (hk : k < l.length) (h : ∀ p ∈ l.take k, validL p = true) (hf : validL l[k] = false) : strayAt l 0 = some (offK l k) := by
  rw [stray_at l 0 k hk h hf]; simp [offK]
theorem encode_lo (p : Nat) (h : p < 128) : Utf8.encode p = ⟨[UInt8.ofNat p].toArray⟩ := by
  have hv : Utf8.valid (p : Int) = true := by simp [Utf8.valid]; omega
  unfold Utf8.encode
  simp [hv, h]
theorem encode_hi (p : Nat) (h : 128 ≤ p) (h2 : p ≤ 255) : Utf8.encode p = ⟨[UInt8.ofNat (192 + p / 64), UInt8.ofNat (128 + p % 64)].toArray⟩ := by
  have hv : Utf8.valid (p : Int) = true := by simp [Utf8.valid]; omega
  unfold Utf8.encode
  simp only [hv]
  simp [show ¬ p < 128 by omega, show p < 2048 by omega]
theorem scan_pos : ∀ (l : List (Int × Int × Int)) (r : Int), (∀ t ∈ l, 1 ≤ t.2.2 ∧ t.2.2 ≤ 6) → 1 ≤ scan l r ∧ scan l r ≤ 6
  | [], r, _ => by simp [scan]
  | (a, b, c) :: l, r, h => by
    simp only [scan]
    split
    · exact h (a, b, c) (by simp)
    · exact scan_pos l r fun t ht => h t (by simp [ht])
theorem clsOf_pos (r : Int) : 1 ≤ clsOf r ∧ clsOf r ≤ 6 := scan_pos spans r (by decide)
theorem unitP_eq (t : Bs) : unitP t = if classL t = 0 ∨ (okL t && ctlB (point t 0).1) = true then hexL (t.headD 0) else if classL t = 4 ∨ classL t = 5 then 37 :: t else t := by
  unfold unitP classL
  by_cases hv : validL t = true
  · have hk : okL t = true := by unfold validL at hv; simp at hv; exact hv.1
    have hp := clsOf_pos (point t 0).1
    rw [hv, hk, if_pos rfl]
    by_cases hc : ctlB (point t 0).1 = true
    · rw [if_pos (Or.inr hc), if_pos (Or.inr (by rw [hc]; rfl))]
    · have c1 : ¬ (true = false ∨ ctlB (point t 0).1 = true) := by simp [hc]
      have c2 : ¬ (clsOf (point t 0).1 = 0 ∨ (true && ctlB (point t 0).1) = true) := by
        intro h
        rcases h with h | h
        · omega
        · simp at h; exact hc h
      rw [if_neg c1, if_neg c2]
  · have hf : validL t = false := by simpa using hv
    rw [hf]
    simp
theorem unitP_len (t : Bs) : (unitP t).length ≤ 4 + t.length := by
  unfold unitP
  split
  · simp [hexL]
  · split <;> simp <;> omega
theorem changeP_len (g : Int → Int) (t : Bs) : (changeP g t).length ≤ 4 + t.length := by
  unfold changeP
  split
  · have := encode_le (g (point t 0).1); rw [Lib.size_eq] at this; omega
  · omega
def chg1 (t : Bs) : Prop := classL t = 2
def chg2 (t : Bs) : Prop := classL t = 1 ∧ ((point t 0).1 : Int) ≠ 181 ∧ ((point t 0).1 : Int) ≠ 223 ∧ ((point t 0).1 : Int) ≠ 255
theorem valid_ok {t : Bs} (h : validL t = true) : okL t = true ∧ (point t 0).2 = t.length := by
  unfold validL at h; simpa using h
theorem encode_valid {t : Bs} (h : validL t = true) : (Utf8.encode ((point t 0).1 : Int)).data.toList = t := by
  obtain ⟨h1, h2⟩ := valid_ok h
  rw [encode_point t h1, (point_take t h1).2, h2, List.take_length]
theorem scan_mem : ∀ (l : List (Int × Int × Int)) (r : Int), scan l r = 6 ∨ ∃ t ∈ l, t.1 ≤ r ∧ r ≤ t.2.1 ∧ scan l r = t.2.2
  | [], r => Or.inl rfl
  | (a, b, c) :: l, r => by
    simp only [scan]
    by_cases h : a ≤ r ∧ r ≤ b
    · rw [if_pos h]; exact Or.inr ⟨(a, b, c), by simp, h.1, h.2, rfl⟩
    · rw [if_neg h]
      rcases scan_mem l r with h1 | ⟨t, h1, h2⟩
      · exact Or.inl h1
      · exact Or.inr ⟨t, by simp [h1], h2⟩
theorem cls_2 {r : Int} (h : clsOf r = 2) : 65 ≤ r ∧ r ≤ 222 := by
  unfold clsOf at h
  rcases scan_mem spans r with h1 | ⟨t, h1, h2⟩
  · omega
  · rw [h] at h2
    simp only [spans, List.mem_cons, List.not_mem_nil, or_false] at h1
    rcases h1 with rfl | rfl | rfl | rfl | rfl | rfl | rfl | rfl | rfl | rfl | rfl | rfl <;> simp only at h2 <;> omega
theorem cls_1 {r : Int} (h : clsOf r = 1) : 97 ≤ r ∧ r ≤ 255 := by
  unfold clsOf at h
  rcases scan_mem spans r with h1 | ⟨t, h1, h2⟩
  · omega
  · rw [h] at h2
    simp only [spans, List.mem_cons, List.not_mem_nil, or_false] at h1
    rcases h1 with rfl | rfl | rfl | rfl | rfl | rfl | rfl | rfl | rfl | rfl | rfl | rfl <;> simp only at h2 <;> omega
theorem change1_cases (t : Bs) : (chg1 t → changeP lowR t = (Utf8.encode (lowRE ((point t 0).1 : Int))).data.toList ∧ (65 ≤ ((point t 0).1 : Int) ∧ ((point t 0).1 : Int) ≤ 222) ∧ True) ∧ (¬ chg1 t → changeP lowR t = t) := by
  unfold chg1 classL changeP
  by_cases hv : validL t = true
  · rw [if_pos hv, if_pos hv]
    refine ⟨fun h => ⟨?_, cls_2 h, trivial⟩, fun h => ?_⟩
    · unfold lowR; rw [if_pos ⟨h, trivial⟩]
    · unfold lowR; rw [if_neg (fun hh => h hh.1)]; exact encode_valid hv
  · rw [if_neg hv, if_neg hv]
    exact ⟨fun h => by simp at h, fun _ => rfl⟩
theorem change2_cases (t : Bs) : (chg2 t → changeP upR t = (Utf8.encode (upRE ((point t 0).1 : Int))).data.toList ∧ (97 ≤ ((point t 0).1 : Int) ∧ ((point t 0).1 : Int) ≤ 255) ∧ True) ∧ (¬ chg2 t → changeP upR t = t) := by
  unfold chg2 classL changeP
  by_cases hv : validL t = true
  · rw [if_pos hv, if_pos hv]
    refine ⟨fun h => ⟨?_, cls_1 h.1, trivial⟩, fun h => ?_⟩
    · unfold upR; rw [if_pos ⟨h.1, h.2⟩]
    · unfold upR; rw [if_neg (fun hh => h ⟨hh.1, hh.2⟩)]; exact encode_valid hv
  · rw [if_neg hv, if_neg hv]
    exact ⟨fun h => by simp at h, fun _ => rfl⟩
/-- the value of a hexadecimal digit, as strconv reads it -/
def lowB (c : UInt8) : Nat := (c ||| 32).toNat
def hexv (c : UInt8) : Option Nat :=
  if 48 ≤ c.toNat ∧ c.toNat ≤ 57 then some (c.toNat - 48)
  else if 97 ≤ lowB c ∧ lowB c ≤ 122 then (if lowB c < 103 then some (lowB c - 87) else none) else none
/-- how strconv.ParseUint meets a byte: a digit, a letter up to f, another letter, another byte -/
theorem hexv_cases (c : UInt8) : (48 ≤ (c.toNat : Int) ∧ (c.toNat : Int) ≤ 57 ∧ hexv c = some (c.toNat - 48)) ∨
    (((c.toNat : Int) < 48 ∨ 57 < (c.toNat : Int)) ∧ 97 ≤ (lowB c : Int) ∧ (lowB c : Int) ≤ 102 ∧ hexv c = some (lowB c - 87)) ∨
    (((c.toNat : Int) < 48 ∨ 57 < (c.toNat : Int)) ∧ 103 ≤ (lowB c : Int) ∧ (lowB c : Int) ≤ 122 ∧ hexv c = none) ∨
    (((c.toNat : Int) < 48 ∨ 57 < (c.toNat : Int)) ∧ ((lowB c : Int) < 97 ∨ 122 < (lowB c : Int)) ∧ hexv c = none) := by
  unfold hexv
  split
  · left; exact ⟨by omega, by omega, rfl⟩
  · right
    split
    · split
      · left; exact ⟨by omega, by omega, by omega, rfl⟩
      · right; left; exact ⟨by omega, by omega, by omega, rfl⟩
    · right; right; exact ⟨by omega, by omega, rfl⟩
theorem lowB_lt (c : UInt8) : lowB c < 256 := UInt8.toNat_lt _
def hex2 (x y : UInt8) : Option Nat := match hexv x, hexv y with | some a, some b => some (16 * a + b) | _, _ => none
/-- the first unit of a quoted text: the name that it stands for, its size; 0: none -/
def unitT (t : Bs) : Bs × Nat :=
  if t.headD 0 ≠ 37 then (t.take (psz t), psz t)
  else if 4 ≤ t.length ∧ t.getD 1 0 = 120 ∧ (hex2 (t.getD 2 0) (t.getD 3 0)).isSome = true then ([UInt8.ofNat ((hex2 (t.getD 2 0) (t.getD 3 0)).getD 0)], 4)
  else if t.length < 2 then ([], 0)
  else ((t.drop 1).take (psz (t.drop 1)), 1 + psz (t.drop 1))
theorem unitT_plain (s : ByteArray) (h0 : 0 < s.size) (h : s.data.toList.headD 0 ≠ 37) :
    (unitT s.data.toList).1 = (s.extract 0 (Lib.decodeGo s).2).data.toList ∧ (unitT s.data.toList).2 = (Lib.decodeGo s).2 := by
  obtain ⟨e1, e2, hne⟩ := first_ext s (by omega)
  unfold unitT
  rw [if_pos h, e1, psz_dec s (by omega)]
  exact ⟨rfl, rfl⟩
theorem ne37 (c : UInt8) (h : c ≠ 37) : (((c.toNat : Nat) : Int) != 37) = true := by
  have : c.toNat ≠ 37 := fun e => h (UInt8.toNat_inj.1 e)
  simp; omega
theorem unitT_short (s : ByteArray) (h : s.size < 2) (h37 : s.data.toList.headD 0 = 37) : unitT s.data.toList = ([], 0) := by
  unfold unitT
  rw [Lib.size_eq] at h
  rw [if_neg (fun hh => hh h37), if_neg (by omega), if_pos h]
theorem unitT_tail (s : ByteArray) (h1 : 1 < s.size) (h37 : s.data.toList.headD 0 = 37) :
    (¬ (4 ≤ s.data.toList.length ∧ s.data.toList.getD 1 0 = 120 ∧ (hex2 (s.data.toList.getD 2 0) (s.data.toList.getD 3 0)).isSome = true)) →
    (unitT s.data.toList).1 = (s.extract 1 (1 + (Lib.decodeGo (s.extract 1 s.size)).2)).data.toList ∧ (unitT s.data.toList).2 = 1 + (Lib.decodeGo (s.extract 1 s.size)).2 := by
  intro hx
  have e : (s.extract 1 s.size).data.toList = s.data.toList.drop 1 := by
    rw [Lib.extract_data, List.take_of_length_le]
    rw [List.length_drop, ← Lib.size_eq]; exact Nat.le_refl _
  have hs : ¬ (s.extract 1 s.size).size = 0 := by rw [Lib.size_eq, e, List.length_drop, ← Lib.size_eq]; omega
  rw [psz_dec _ hs, e, Lib.extract_data, Nat.add_sub_cancel_left]
  unfold unitT
  rw [Lib.size_eq] at h1
  rw [if_neg (fun hh => hh h37), if_neg hx, if_neg (by omega)]
  exact ⟨rfl, rfl⟩
theorem unitT_hex (s : ByteArray) (h37 : s.data.toList.headD 0 = 37) : ∀ m, 4 ≤ s.size → s.data.toList.getD 1 0 = 120 → hex2 (s.data.toList.getD 2 0) (s.data.toList.getD 3 0) = some m →
    unitT s.data.toList = ([UInt8.ofNat m], 4) := by
  intro m h4 h1 h2
  unfold unitT
  rw [Lib.size_eq] at h4
  rw [if_neg (fun hh => hh h37), if_pos ⟨h4, h1, by rw [h2]; rfl⟩, h2]; rfl
theorem ext_two (s : ByteArray) (h : 4 ≤ s.size) : ∃ x y, s.extract 2 4 = ⟨#[x, y]⟩ ∧ s.data.toList.getD 2 0 = x ∧ s.data.toList.getD 3 0 = y := by
  have hl : s.data.toList.length = s.size := (Lib.size_eq s).symm
  refine ⟨s.data.toList.getD 2 0, s.data.toList.getD 3 0, ?_, rfl, rfl⟩
  have e : (s.extract 2 4).data.toList = [s.data.toList.getD 2 0, s.data.toList.getD 3 0] := by
    rw [Lib.extract_data]
    obtain ⟨d⟩ := s
    obtain ⟨l⟩ := d
    match l, h with
    | a :: b :: c :: d :: r, _ => rfl
  cases hx : s.extract 2 4 with
  | mk d => rw [hx] at e; cases d with
    | mk l => simp only at e; rw [e]
theorem byte1 (t : ByteArray) (ht : 1 < t.size) : t[1] = t.data.toList.getD 1 0 := by
  obtain ⟨d⟩ := t
  obtain ⟨l⟩ := d
  match l, ht with
  | a :: b :: r, _ => rfl
theorem hexv_lt {c : UInt8} {a : Nat} (h : hexv c = some a) : a < 16 := by
  unfold hexv at h
  split at h
  · cases h; omega
  · split at h
    · split at h
      · cases h; omega
      · cases h
    · cases h
theorem hex2_lt {x y : UInt8} {m : Nat} (h : hex2 x y = some m) : m < 256 := by
  unfold hex2 at h
  cases hx : hexv x with
  | none => rw [hx] at h; simp at h
  | some a =>
    cases hy : hexv y with
    | none => rw [hx, hy] at h; simp at h
    | some b =>
      rw [hx, hy] at h
      simp at h
      have := hexv_lt hx; have := hexv_lt hy; omega
theorem eq120 (c : UInt8) (h : ¬ c = 120) : (((c.toNat : Nat) : Int) == 120) = false := by
  have : c.toNat ≠ 120 := fun e => h (UInt8.toNat_inj.1 e)
  simp; omega

/- The plain words of layer 1 (letters), the third part: reading what Quote has written. -/

theorem unitT_bd (l : Bs) (h : l ≠ []) : (unitT l).2 ≤ l.length ∧ (unitT l).1.length ≤ (unitT l).2 := by
  have hb := psz_bd l h
  have hl := List.length_pos_iff.2 h
  unfold unitT
  split
  · simp; omega
  · split
    · rename_i h1; simp; exact h1.1
    · split
      · simp
      · have hb2 := psz_bd (l.drop 1) (by intro e; have := congrArg List.length e; simp at this; omega)
        simp at hb2 ⊢
        omega
/-- what the program's lenient reader reads -/
def readT : Nat → Bs → Option Bs
  | 0, l => if l = [] then some [] else none
  | k + 1, l => if l = [] then some [] else if (unitT l).2 = 0 then none else (readT k (l.drop (unitT l).2)).map ((unitT l).1 ++ ·)
theorem readT_enough : ∀ (k : Nat) (l : Bs), l.length ≤ k → readT k l = readT l.length l
  | 0, l, h => by have : l = [] := List.eq_nil_of_length_eq_zero (by omega); subst this; rfl
  | k + 1, [], h => rfl
  | k + 1, x :: r, h => by
    show (if x :: r = [] then some [] else if (unitT (x :: r)).2 = 0 then none else (readT k ((x :: r).drop (unitT (x :: r)).2)).map ((unitT (x :: r)).1 ++ ·)) =
      (if x :: r = [] then some [] else if (unitT (x :: r)).2 = 0 then none else (readT r.length ((x :: r).drop (unitT (x :: r)).2)).map ((unitT (x :: r)).1 ++ ·))
    simp only [List.length_cons] at h
    by_cases hz : (unitT (x :: r)).2 = 0
    · rw [if_pos hz, if_pos hz]
    · rw [if_neg hz, if_neg hz, readT_enough k _ (by simp; omega), readT_enough r.length _ (by simp; omega)]
def readF (l : Bs) : Option Bs := readT l.length l
theorem readF_nil : readF [] = some [] := rfl
theorem readF_step (l : Bs) (h : l ≠ []) : readF l = if (unitT l).2 = 0 then none else (readF (l.drop (unitT l).2)).map ((unitT l).1 ++ ·) := by
  have hl := List.length_pos_iff.2 h
  unfold readF
  obtain ⟨k, hk⟩ : ∃ k, l.length = k + 1 := ⟨l.length - 1, by omega⟩
  rw [hk]
  show (if l = [] then some [] else if (unitT l).2 = 0 then none else (readT k (l.drop (unitT l).2)).map ((unitT l).1 ++ ·)) = _
  rw [if_neg h]
  by_cases hz : (unitT l).2 = 0
  · rw [if_pos hz, if_pos hz]
  · rw [if_neg hz, if_neg hz, readT_enough k _ (by simp; omega)]
/-- what Unquote returns: the name, or none (ErrForm) -/
def unquoteL (l : Bs) : Option Bs :=
  if l = [37, 48] then some []
  else match readF l with
    | some n => if quoteL n = l then some n else none
    | none => none
def unqS (o : Option Bs) : Bs := o.getD []
def unqE (o : Option Bs) : Nat := if o.isSome = true then 0 else 3
/-- two texts compared byte by byte -/
def cmpL : Bs → Bs → Int
  | [], [] => 0
  | [], _ :: _ => -1
  | _ :: _, [] => 1
  | x :: r, y :: t => if x < y then -1 else if y < x then 1 else cmpL r t
theorem cmpL_eq : ∀ a b : Bs, Lib.compareBytes a b = cmpL a b
  | [], [] => rfl
  | [], _ :: _ => rfl
  | _ :: _, [] => rfl
  | x :: r, y :: t => by simp only [Lib.compareBytes, cmpL]; rw [cmpL_eq r t]
theorem drop_byte (a : ByteArray) (k : Nat) (h : k < a.size) : a.data.toList.drop k = a[k] :: a.data.toList.drop (k + 1) := by
  rw [List.drop_eq_getElem_cons (by rw [← Lib.size_eq]; exact h)]; rfl
theorem cmpL_step (a b : ByteArray) (k : Nat) (ha : k < a.size) (hb : k < b.size) :
    cmpL (a.data.toList.drop k) (b.data.toList.drop k) = if a[k].toNat < b[k].toNat then -1 else if b[k].toNat < a[k].toNat then 1 else cmpL (a.data.toList.drop (k + 1)) (b.data.toList.drop (k + 1)) := by
  rw [drop_byte a k ha, drop_byte b k hb]; rfl

/- Plain laws of quoting: what Quote writes is read back; the pieces of a quoted text. No program in sight. -/
set_option linter.unusedVariables false

/-- a piece: a letter, or one stray byte -/
def PieceOk (t : Bs) : Prop := validL t = true ∨ ∃ c, t = [c] ∧ validL t = false
theorem pieces_ok (l : Bs) : ∀ p ∈ pieces l, PieceOk p := by
  induction l using pieces_ind with
  | h0 => intro p hp; rw [pieces_nil] at hp; cases hp
  | h1 l hne ih =>
    intro p hp
    rw [pieces_step l hne] at hp
    rcases List.mem_cons.1 hp with rfl | hp
    · have h := (piece_first l hne).1
      cases hk : okL l with
      | true => left; rw [h, hk]
      | false =>
        right
        have hz : psz l = 1 := by
          unfold psz; unfold okL at hk
          have : ¬ 0 < (point l 0).2 := of_decide_eq_false hk
          omega
        obtain ⟨c, r, rfl⟩ : ∃ c r, l = c :: r := by
          cases l with
          | nil => exact absurd rfl hne
          | cons c r => exact ⟨c, r, rfl⟩
        exact ⟨c, by rw [hz]; rfl, by rw [h, hk]⟩
    · exact ih p hp

theorem valid_ne {t : Bs} (h : validL t = true) : t ≠ [] := by
  intro e; subst e; exact absurd h (by decide)
theorem atB_app {t r : Bs} {k : Nat} (h : k < t.length) : atB (t ++ r) k = atB t k := by
  unfold atB; rw [List.getElem?_append_left h]
theorem point_app {t : Bs} (r : Bs) (h : validL t = true) : point (t ++ r) 0 = point t 0 := by
  obtain ⟨h1, h2⟩ := valid_ok h
  have hp : 0 < (point t 0).2 := of_decide_eq_true h1
  exact point_pre (t ++ r) t (fun k hk => atB_app (by omega)) (by rw [List.length_append]; omega) hp (by omega)
theorem okL_app {t : Bs} (r : Bs) (h : validL t = true) : okL (t ++ r) = true := by
  unfold okL; rw [point_app r h]; exact (valid_ok h).1
theorem psz_app {t : Bs} (r : Bs) (h : validL t = true) : psz (t ++ r) = t.length := by
  obtain ⟨h1, h2⟩ := valid_ok h
  have hp : 0 < (point t 0).2 := of_decide_eq_true h1
  unfold psz; rw [point_app r h, h2]; omega
theorem pieces_app {t : Bs} (r : Bs) (h : validL t = true) : pieces (t ++ r) = t :: pieces r := by
  rw [pieces_step _ (by simp [valid_ne h]), psz_app r h, List.take_left, List.drop_left]

theorem hex_back : ∀ n : Nat, n < 256 → hex2 (hexd (n / 16)) (hexd (n % 16)) = some n := by decide +kernel
theorem head_app {t : Bs} (r : Bs) (h : t ≠ []) : (t ++ r).headD 0 = t.headD 0 := by
  cases t with
  | nil => exact absurd rfl h
  | cons a b => rfl
theorem at_head {t : Bs} (h : t ≠ []) : atB t 0 = (t.headD 0).toNat := by
  cases t with
  | nil => exact absurd rfl h
  | cons a b => rfl
/-- a letter that begins with a byte of ASCII is that byte -/
theorem valid_low {t : Bs} (h : validL t = true) (hb : (t.headD 0).toNat < 128) : t = [t.headD 0] ∧ (point t 0).1 = (t.headD 0).toNat := by
  have hne := valid_ne h
  obtain ⟨h1, h2⟩ := valid_ok h
  have hl : ¬ t.length ≤ 0 := by have := List.length_pos_iff.2 hne; omega
  have e : point t 0 = (atB t 0, 1) := by unfold point; rw [if_neg hl, if_pos (by rw [at_head hne]; exact hb)]
  rw [e] at h2
  have h2' : t.length = 1 := h2.symm
  refine ⟨?_, by rw [e, at_head hne]⟩
  cases t with
  | nil => exact absurd rfl hne
  | cons a b => simp at h2'; subst h2'; rfl
/-- a letter whose code point is below 128 is one byte -/
theorem valid_small {t : Bs} (h : validL t = true) (hb : (point t 0).1 < 128) : t = [t.headD 0] ∧ (point t 0).1 = (t.headD 0).toNat := by
  apply valid_low h
  have hne := valid_ne h
  have hl : ¬ t.length ≤ 0 := by have := List.length_pos_iff.2 hne; omega
  rcases Nat.lt_or_ge (t.headD 0).toNat 128 with hh | hh
  · exact hh
  exfalso
  rw [← at_head hne] at hh
  have ho : 0 < (point t 0).2 := of_decide_eq_true (valid_ok h).1
  unfold point at hb ho
  rw [if_neg hl, if_neg (by omega)] at hb ho
  split at hb
  · simp only at hb; omega
  · rename_i n1
    rw [if_neg n1] at ho
    split at hb
    · simp only at hb; omega
    · rename_i n2
      rw [if_neg n2] at ho
      split at hb
      · simp only at hb; omega
      · rename_i n3
        rw [if_neg n3] at ho
        exact absurd ho (by decide)

theorem unitT_back (t r : Bs) (h : PieceOk t) : unitT (unitP t ++ r) = (t, (unitP t).length) := by
  have hex : ∀ c : UInt8, unitT (hexL c ++ r) = ([c], 4) := fun c => by
    have hb := hex_back c.toNat (UInt8.toNat_lt c)
    unfold unitT hexL
    rw [if_neg (by simp)]
    have e2 : ([37, 120, hexd (c.toNat / 16), hexd (c.toNat % 16)] ++ r).getD 2 0 = hexd (c.toNat / 16) := rfl
    have e3 : ([37, 120, hexd (c.toNat / 16), hexd (c.toNat % 16)] ++ r).getD 3 0 = hexd (c.toNat % 16) := rfl
    rw [e2, e3, hb, if_pos ⟨by simp, rfl, rfl⟩]
    simp
  rcases h with hv | ⟨c, rfl, hv⟩
  · by_cases hc : ctlB (point t 0).1 = true
    · have e : unitP t = hexL (t.headD 0) := by unfold unitP; rw [if_pos (Or.inr hc)]
      have hsm : (point t 0).1 < 128 := by
        unfold ctlB at hc; have := of_decide_eq_true hc; omega
      have h1 := (valid_small hv hsm).1
      rw [e, hex, ← h1]; rfl
    · have hcf : ¬ (validL t = false ∨ ctlB (point t 0).1 = true) := by
        rintro (hh | hh)
        · rw [hv] at hh; cases hh
        · exact hc hh
      by_cases hm : clsOf (point t 0).1 = 4 ∨ clsOf (point t 0).1 = 5
      · have e : unitP t = 37 :: t := by unfold unitP; rw [if_neg hcf, if_pos hm]
        have hne := valid_ne hv
        have hx : t.headD 0 ≠ 120 := by
          intro hx
          have hp := (valid_low hv (by rw [hx]; decide)).2
          rw [hx] at hp
          rw [hp] at hm
          exact absurd hm (by decide)
        have hl := List.length_pos_iff.2 hne
        rw [e]
        unfold unitT
        have hg : (37 :: t ++ r).getD 1 0 = t.headD 0 := by
          cases t with
          | nil => exact absurd rfl hne
          | cons a b => rfl
        rw [if_neg (by simp), if_neg (by rw [hg]; exact fun hh => hx hh.2.1), if_neg (by simp; omega)]
        have hd : (37 :: t ++ r).drop 1 = t ++ r := rfl
        rw [hd, psz_app r hv, List.take_left, List.length_cons, Nat.add_comm]
      · have e : unitP t = t := by unfold unitP; rw [if_neg hcf, if_neg hm]
        have hne := valid_ne hv
        have hx : t.headD 0 ≠ 37 := by
          intro hx
          have hp := (valid_low hv (by rw [hx]; decide)).2
          rw [hx] at hp
          rw [hp] at hm
          exact absurd hm (by decide)
        rw [e]
        unfold unitT
        rw [if_pos (by rw [head_app r hne]; exact hx), psz_app r hv, List.take_left]
  · have e : unitP [c] = hexL c := by unfold unitP; rw [if_pos (Or.inl hv)]; rfl
    rw [e, hex]; rfl

theorem readF_back : ∀ ps : List Bs, (∀ p ∈ ps, PieceOk p) → readF (ps.flatMap unitP) = some ps.flatten
  | [], _ => rfl
  | t :: r, h => by
    have ht := h t List.mem_cons_self
    have hu := unitT_back t (r.flatMap unitP) ht
    have hpos : 0 < (unitP t).length := by
      rcases ht with hv | ⟨c, rfl, hv⟩
      · have := List.length_pos_iff.2 (valid_ne hv)
        unfold unitP; split
        · simp [hexL]
        · split
          · simp
          · exact this
      · unfold unitP; rw [if_pos (Or.inl hv)]; simp [hexL]
    rw [List.flatMap_cons, readF_step _ (by intro e; have := congrArg List.length e; simp only [List.length_append, List.length_nil] at this; omega), hu]
    simp only
    rw [if_neg (by omega), List.drop_left, readF_back r (fun p hp => h p (List.mem_cons_of_mem _ hp))]
    rfl
theorem read_quote (n : Bs) : readF (quoteP n) = some n := by
  have := readF_back (pieces n) (pieces_ok n)
  rwa [pieces_flat] at this
theorem quote_not {n : Bs} (h : n ≠ []) : quoteL n ≠ [37, 48] := by
  unfold quoteL
  rw [if_neg h]
  intro e
  have h1 := read_quote n
  rw [e] at h1
  have h2 : readF [37, 48] = some [48] := by decide +kernel
  rw [h2] at h1
  obtain rfl := Option.some.inj h1
  exact absurd e (by decide +kernel)
theorem unquote_quote (n : Bs) : unquoteL (quoteL n) = some n := by
  by_cases h : n = []
  · subst h; rfl
  · unfold unquoteL
    rw [if_neg (quote_not h)]
    have : readF (quoteL n) = some n := by unfold quoteL; rw [if_neg h]; exact read_quote n
    rw [this]
    simp

/- The reference's reader of a quoted text, on lists of bytes: it reads what Quote writes; it answers as Unquote. No program in sight. -/
set_option linter.unusedVariables false

/-- the value of a hexadecimal digit, or -1 -/
def digB (c : UInt8) : Int := if 48 ≤ c.toNat ∧ c.toNat ≤ 57 then (c.toNat : Int) - 48 else if 97 ≤ c.toNat ∧ c.toNat ≤ 102 then (c.toNat : Int) - 87 else -1
theorem digB_bd (c : UInt8) : -1 ≤ digB c ∧ digB c ≤ 15 := by unfold digB; split <;> (try split) <;> omega
def hexAt (l : Bs) : Prop := l.headD 0 = 37 ∧ 3 < l.length ∧ l.getD 1 0 = 120 ∧ 0 ≤ digB (l.getD 2 0) ∧ 0 ≤ digB (l.getD 3 0)
instance (l : Bs) : Decidable (hexAt l) := by unfold hexAt; infer_instance
/-- what the reference reads first: a byte, and how many bytes it stood in -/
def stepR (l : Bs) : UInt8 × Nat :=
  if hexAt l then (UInt8.ofNat (16 * digB (l.getD 2 0) + digB (l.getD 3 0)).toNat, 4)
  else if l.headD 0 = 37 ∧ 1 < l.length then (l.getD 1 0, 2)
  else (l.headD 0, 1)
theorem stepR_pos (l : Bs) : 1 ≤ (stepR l).2 := by unfold stepR; split <;> (try split) <;> simp
def refT : Nat → Bs → Bs
  | 0, _ => []
  | k + 1, l => if l = [] then [] else (stepR l).1 :: refT k (l.drop (stepR l).2)
theorem refT_enough : ∀ (k : Nat) (l : Bs), l.length ≤ k → refT k l = refT l.length l
  | 0, l, h => by have : l = [] := List.eq_nil_of_length_eq_zero (by omega); subst this; rfl
  | k + 1, [], h => rfl
  | k + 1, x :: r, h => by
    show (if x :: r = [] then [] else (stepR (x :: r)).1 :: refT k ((x :: r).drop (stepR (x :: r)).2)) = (if x :: r = [] then [] else (stepR (x :: r)).1 :: refT r.length ((x :: r).drop (stepR (x :: r)).2))
    have hp := stepR_pos (x :: r)
    simp only [List.length_cons] at h
    rw [refT_enough k _ (by simp; omega), refT_enough r.length _ (by simp; omega)]
def refR (l : Bs) : Bs := refT l.length l
theorem refR_nil : refR [] = [] := rfl
theorem refR_step (l : Bs) (h : l ≠ []) : refR l = (stepR l).1 :: refR (l.drop (stepR l).2) := by
  have hl := List.length_pos_iff.2 h
  have hp := stepR_pos l
  unfold refR
  obtain ⟨k, hk⟩ : ∃ k, l.length = k + 1 := ⟨l.length - 1, by omega⟩
  rw [hk]
  show (if l = [] then [] else (stepR l).1 :: refT k (l.drop (stepR l).2)) = _
  rw [if_neg h, refT_enough k _ (by simp; omega)]
theorem refR_plain (c : UInt8) (r : Bs) (h : c ≠ 37) : refR (c :: r) = c :: refR r := by
  have e : stepR (c :: r) = (c, 1) := by
    unfold stepR
    rw [if_neg (fun hh => h hh.1), if_neg (fun hh => h hh.1)]; rfl
  rw [refR_step _ (by simp), e]; rfl
theorem refR_app : ∀ (t r : Bs), (∀ c ∈ t, c ≠ 37) → refR (t ++ r) = t ++ refR r
  | [], r, _ => rfl
  | c :: t, r, h => by
    rw [List.cons_append, refR_plain c _ (h c List.mem_cons_self), refR_app t r (fun d hd => h d (List.mem_cons_of_mem _ hd)), List.cons_append]

theorem point_cont (l : Bs) (k : Nat) (h1 : 1 ≤ k) (h2 : k < (point l 0).2) : cont l k = true := by
  unfold point at h2
  split at h2
  · simp only at h2; omega
  split at h2
  · simp only at h2; omega
  split at h2
  · rename_i hc; simp only at h2
    obtain rfl : k = 1 := by omega
    exact hc.2.2.1
  split at h2
  · rename_i hc; simp only at h2
    have : k = 1 ∨ k = 2 := by omega
    rcases this with rfl | rfl
    · exact hc.2.2.1
    · exact hc.2.2.2.1
  split at h2
  · rename_i hc; simp only at h2
    have : k = 1 ∨ k = 2 ∨ k = 3 := by omega
    rcases this with rfl | rfl | rfl
    · exact hc.2.2.1
    · exact hc.2.2.2.1
    · exact hc.2.2.2.2.1
  · simp only at h2; omega
/-- the bytes of a letter behind its first -/
theorem valid_tail {t : Bs} (h : validL t = true) : ∀ c ∈ t.tail, 128 ≤ c.toNat := by
  intro c hc
  obtain ⟨k, hk⟩ := List.getElem?_of_mem hc
  rw [List.getElem?_tail] at hk
  have hlt : k + 1 < t.length := (List.getElem?_eq_some_iff.1 hk).1
  have := point_cont t (k + 1) (by omega) (by rw [(valid_ok h).2]; exact hlt)
  rw [cont_iff] at this
  have e : atB t (k + 1) = c.toNat := by unfold atB; rw [hk]; rfl
  omega
theorem hexd_dig : ∀ n : Nat, n < 16 → digB (hexd n) = n := by decide +kernel

theorem refR_unit (t r : Bs) (h : PieceOk t) : refR (unitP t ++ r) = t ++ refR r := by
  have hex : ∀ c : UInt8, refR (hexL c ++ r) = c :: refR r := fun c => by
    have hlt := UInt8.toNat_lt c
    have d1 := hexd_dig (c.toNat / 16) (by omega)
    have d2 := hexd_dig (c.toNat % 16) (by omega)
    have e : stepR (hexL c ++ r) = (c, 4) := by
      unfold stepR
      have e2 : (hexL c ++ r).getD 2 0 = hexd (c.toNat / 16) := rfl
      have e3 : (hexL c ++ r).getD 3 0 = hexd (c.toNat % 16) := rfl
      have hx : hexAt (hexL c ++ r) := ⟨rfl, by simp [hexL], rfl, by rw [e2, d1]; omega, by rw [e3, d2]; omega⟩
      rw [if_pos hx, e2, e3, d1, d2]
      congr 1
      have : (16 * ((c.toNat / 16 : Nat) : Int) + ((c.toNat % 16 : Nat) : Int)).toNat = c.toNat := by omega
      rw [this]; simp
    rw [refR_step _ (by simp [hexL]), e]; rfl
  rcases h with hv | ⟨c, rfl, hv⟩
  · have hne := valid_ne hv
    by_cases hc : ctlB (point t 0).1 = true
    · have e : unitP t = hexL (t.headD 0) := by unfold unitP; rw [if_pos (Or.inr hc)]
      have hsm : (point t 0).1 < 128 := by
        unfold ctlB at hc; have := of_decide_eq_true hc; omega
      have h1 := (valid_small hv hsm).1
      rw [e, hex]
      conv => rhs; rw [h1]
      rfl
    · have hcf : ¬ (validL t = false ∨ ctlB (point t 0).1 = true) := by
        rintro (hh | hh)
        · rw [hv] at hh; cases hh
        · exact hc hh
      have ht := valid_tail hv
      obtain ⟨a, b, rfl⟩ : ∃ a b, t = a :: b := by
        cases t with
        | nil => exact absurd rfl hne
        | cons a b => exact ⟨a, b, rfl⟩
      have hb : ∀ c ∈ b, c ≠ 37 := fun c hc e => by have := ht c hc; rw [e] at this; exact absurd this (by decide)
      by_cases hm : clsOf (point (a :: b) 0).1 = 4 ∨ clsOf (point (a :: b) 0).1 = 5
      · have e : unitP (a :: b) = 37 :: a :: b := by unfold unitP; rw [if_neg hcf, if_pos hm]
        have hx : a ≠ 120 := by
          intro hx
          subst hx
          have hp := (valid_low hv (show (120 : UInt8).toNat < 128 by decide)).2
          rw [hp, List.headD_cons] at hm
          exact absurd hm (by decide)
        have e2 : stepR (37 :: a :: b ++ r) = (a, 2) := by
          unfold stepR
          rw [if_neg (fun hh => hx hh.2.2.1), if_pos ⟨rfl, by simp⟩]; rfl
        rw [e, refR_step _ (by simp), e2]
        show a :: refR (b ++ r) = _
        rw [refR_app b r hb]; rfl
      · have e : unitP (a :: b) = a :: b := by unfold unitP; rw [if_neg hcf, if_neg hm]
        have hx : a ≠ 37 := by
          intro hx
          subst hx
          have hp := (valid_low hv (show (37 : UInt8).toNat < 128 by decide)).2
          rw [hp, List.headD_cons] at hm
          exact absurd hm (by decide)
        rw [e]
        exact refR_app _ r (fun c hc => by
          rcases List.mem_cons.1 hc with rfl | hc
          · exact hx
          · exact hb c hc)
  · have e : unitP [c] = hexL c := by unfold unitP; rw [if_pos (Or.inl hv)]; rfl
    rw [e, hex]; rfl
theorem refR_back : ∀ ps : List Bs, (∀ p ∈ ps, PieceOk p) → refR (ps.flatMap unitP) = ps.flatten
  | [], _ => rfl
  | t :: r, h => by
    rw [List.flatMap_cons, refR_unit t _ (h t List.mem_cons_self), refR_back r (fun p hp => h p (List.mem_cons_of_mem _ hp)), List.flatten_cons]
theorem refR_quote (n : Bs) : refR (quoteP n) = n := by
  have := refR_back (pieces n) (pieces_ok n)
  rwa [pieces_flat] at this
/-- what the reference's Unquote returns -/
def refU (l : Bs) : Option Bs := if l = [37, 48] then some [] else if refR l = [] ∨ quoteL (refR l) ≠ l then none else some (refR l)
theorem refU_eq (l : Bs) : refU l = unquoteL l := by
  unfold refU unquoteL
  by_cases h0 : l = [37, 48]
  · rw [if_pos h0, if_pos h0]
  · rw [if_neg h0, if_neg h0]
    by_cases h : ∃ n, n ≠ [] ∧ quoteL n = l
    · obtain ⟨n, hn, rfl⟩ := h
      have hq : quoteL n = quoteP n := by unfold quoteL; rw [if_neg hn]
      have e1 : refR (quoteL n) = n := by rw [hq]; exact refR_quote n
      have e2 : readF (quoteL n) = some n := by rw [hq]; exact read_quote n
      rw [e1, e2, if_neg (by simp [hn])]
      simp
    · rw [if_pos]
      · cases hr : readF l with
        | none => rfl
        | some n =>
          show none = if quoteL n = l then some n else none
          rw [if_neg]
          intro e
          by_cases hn : n = []
          · subst hn; exact h0 e.symm
          · exact h ⟨n, hn, e⟩
      · by_cases hr : refR l = []
        · exact Or.inl hr
        · exact Or.inr fun e => h ⟨_, hr, e⟩

/- The pieces of a quoted text. No program in sight. -/
set_option linter.unusedVariables false

/-- the pieces of what Quote writes for one piece -/
def unitL (t : Bs) : List Bs :=
  if validL t = false ∨ ctlB (point t 0).1 = true then [[37], [120], [hexd ((t.headD 0).toNat / 16)], [hexd ((t.headD 0).toNat % 16)]]
  else if clsOf (point t 0).1 = 4 ∨ clsOf (point t 0).1 = 5 then [[37], t] else [t]
theorem valid_ascii (c : UInt8) (h : c.toNat < 128) : validL [c] = true := by
  have e : point [c] 0 = (c.toNat, 1) := by
    unfold point
    have : atB [c] 0 = c.toNat := rfl
    rw [if_neg (by simp), this, if_pos h]
  unfold validL okL
  rw [e]; rfl
theorem hexd_low : ∀ n : Nat, n < 16 → (hexd n).toNat < 128 := by decide +kernel
theorem unitL_pieces (t r : Bs) (h : PieceOk t) : pieces (unitP t ++ r) = unitL t ++ pieces r := by
  unfold unitP unitL
  by_cases h1 : validL t = false ∨ ctlB (point t 0).1 = true
  · rw [if_pos h1, if_pos h1]
    have hlt := UInt8.toNat_lt (t.headD 0)
    have e1 := valid_ascii 37 (by decide)
    have e2 := valid_ascii 120 (by decide)
    have e3 := valid_ascii (hexd ((t.headD 0).toNat / 16)) (hexd_low _ (by omega))
    have e4 := valid_ascii (hexd ((t.headD 0).toNat % 16)) (hexd_low _ (by omega))
    have p1 := pieces_app ([120] ++ ([hexd ((t.headD 0).toNat / 16)] ++ ([hexd ((t.headD 0).toNat % 16)] ++ r))) e1
    rw [pieces_app _ e2, pieces_app _ e3, pieces_app _ e4] at p1
    exact p1
  · rw [if_neg h1, if_neg h1]
    have hv : validL t = true := by
      cases hh : validL t with
      | true => rfl
      | false => exact absurd (Or.inl hh) h1
    by_cases h2 : clsOf (point t 0).1 = 4 ∨ clsOf (point t 0).1 = 5
    · rw [if_pos h2, if_pos h2]
      have p1 := pieces_app (t ++ r) (valid_ascii 37 (by decide))
      rw [pieces_app r hv] at p1
      exact p1
    · rw [if_neg h2, if_neg h2]
      exact pieces_app r hv
theorem unitL_valid (t : Bs) (h : PieceOk t) : ∀ p ∈ unitL t, validL p = true := by
  unfold unitL
  have hlt := UInt8.toNat_lt (t.headD 0)
  intro p hp
  split at hp
  · simp only [List.mem_cons, List.mem_nil_iff, or_false] at hp
    rcases hp with rfl | rfl | rfl | rfl
    · exact valid_ascii 37 (by decide)
    · exact valid_ascii 120 (by decide)
    · exact valid_ascii _ (hexd_low _ (by omega))
    · exact valid_ascii _ (hexd_low _ (by omega))
  · rename_i h1
    have hv : validL t = true := by
      cases hh : validL t with
      | true => rfl
      | false => exact absurd (Or.inl hh) h1
    split at hp
    · simp only [List.mem_cons, List.mem_nil_iff, or_false] at hp
      rcases hp with rfl | rfl
      · exact valid_ascii 37 (by decide)
      · exact hv
    · simp only [List.mem_cons, List.mem_nil_iff, or_false] at hp
      subst hp; exact hv
theorem units_pieces : ∀ ps : List Bs, (∀ p ∈ ps, PieceOk p) → pieces (ps.flatMap unitP) = ps.flatMap unitL
  | [], _ => rfl
  | t :: r, h => by
    rw [List.flatMap_cons, List.flatMap_cons, unitL_pieces t _ (h t List.mem_cons_self), units_pieces r (fun p hp => h p (List.mem_cons_of_mem _ hp))]
theorem quoteP_pieces (n : Bs) : pieces (quoteP n) = (pieces n).flatMap unitL := units_pieces _ (pieces_ok n)
theorem stray_all {l : List Bs} (h : ∀ p ∈ l, validL p = true) : strayAt l 0 = none := stray_none l 0 h
/-- what Split answers of a quoted text that is not too long -/
theorem quote_split {n : Bs} (hn : n ≠ []) (hl : (quoteL n).length ≤ 16384) : splitL (quoteL n) = (pieces n).flatMap unitL ∧ splitAt (quoteL n) = 0 ∧ splitE (quoteL n) = 0 := by
  have hq : quoteL n = quoteP n := by unfold quoteL; rw [if_neg hn]
  have e : splitR (quoteL n) = ((pieces n).flatMap unitL, 0, 0) := by
    unfold splitR
    rw [if_neg (by omega), hq, quoteP_pieces, stray_all]
    intro p hp
    obtain ⟨t, ht, hp⟩ := List.mem_flatMap.1 hp
    exact unitL_valid t (pieces_ok n t ht) p hp
  exact ⟨by unfold splitL; rw [e], by unfold splitAt; rw [e], by unfold splitE; rw [e]⟩
/-- a piece of class 4 or 5 that is no control character begins with a byte that is at least 32 -/
theorem head_ge {t : Bs} (hv : validL t = true) (hc : ¬ ctlB (point t 0).1 = true) : 32 ≤ (t.headD 0).toNat ∧ (t.headD 0).toNat ≠ 127 := by
  rcases Nat.lt_or_ge (t.headD 0).toNat 128 with h | h
  · have := (valid_low hv h).2
    unfold ctlB at hc
    rw [decide_eq_true_eq, this] at hc
    omega
  · omega

/- The plain words of layer 33 (readings): tags, cohorts, rules, their texts, and what is read from a text. No program in sight. -/
set_option linter.unusedVariables false

/-- is a string a tag or a form? -/
def tagOk (s : Bs) : Bool := decide (splitE s = 0) && !s.isEmpty && decide (s.length ≤ 40)
def tagsOk (lo hi : Nat) (l : List Bs) : Bool := decide (lo ≤ l.length) && decide (l.length ≤ hi) && l.all tagOk
structure Coh where
  form : Bs
  reads : List (List Bs)
deriving DecidableEq
def cohOk (c : Coh) : Bool := tagOk c.form && decide (c.reads.length ≤ 30) && c.reads.all (tagsOk 1 20)
def cohsOk (l : List Coh) : Bool := decide (l.length ≤ 200) && l.all cohOk
structure Tst where
  at_ : Int
  scan : Bool
  not_ : Bool
  careful : Bool
  tags : List Bs
  barrier : List Bs
deriving DecidableEq
def tstOk (t : Tst) : Bool := decide (-99 ≤ t.at_) && decide (t.at_ ≤ 99) && !(t.scan && decide (t.at_ = 0)) && tagsOk 1 20 t.tags && tagsOk 0 20 t.barrier && !(!t.scan && !t.barrier.isEmpty)
structure Rul where
  op : Int
  target : List Bs
  tests : List Tst
  uns : Bool
deriving DecidableEq
def rulOk (r : Rul) : Bool := (decide (r.op = 1) || decide (r.op = 2)) && tagsOk 1 20 r.target && decide (r.tests.length ≤ 10) && r.tests.all tstOk
/-- strings with a space between two of them -/
def joinS : List Bs → Bs
  | [] => []
  | [x] => x
  | x :: y :: r => x ++ 32 :: joinS (y :: r)
def quotedL (l : List Bs) : Bs := joinS (l.map quoteL)
/-- the text of cohorts -/
def textC (c : Coh) : Bs := quoteL c.form ++ 10 :: (c.reads.flatMap fun r => 9 :: (quotedL r ++ [10]))
def textL (l : List Coh) : Bs := l.flatMap textC
def cohsText (l : List Coh) : Bs × Nat := if cohsOk l = true then (if 16384 < (textL l).length then ([], 2) else (textL l, 0)) else ([], 1)
/-- a number from -99 to 99 in decimal -/
def decL (n : Nat) : Bs := if n < 10 then [UInt8.ofNat (48 + n)] else [UInt8.ofNat (48 + n / 10), UInt8.ofNat (48 + n % 10)]
def numL (n : Int) : Bs := if n < 0 then 45 :: decL n.natAbs else decL n.natAbs
def optL (b : Bool) (l : Bs) : Bs := if b = true then l else []
def hdrL (t : Tst) : Bs := 40 :: (optL t.not_ [33] ++ numL t.at_ ++ optL t.scan [42] ++ optL t.careful [67])
def testL (t : Tst) : Bs := hdrL t ++ 32 :: quotedL t.tags ++ optL (!t.barrier.isEmpty) ([32, 124, 32] ++ quotedL t.barrier) ++ [41]
def selB : Bs := [83, 69, 76, 69, 67, 84]
def remB : Bs := [82, 69, 77, 79, 86, 69]
def headL (r : Rul) : Bs := (if r.op = 2 then remB else selB) ++ optL r.uns [33]
def ruleL (r : Rul) : Bs := headL r ++ 32 :: quotedL r.target ++ r.tests.flatMap fun t => 32 :: testL t
def rulesL (l : List Rul) : Bs := l.flatMap fun r => ruleL r ++ [10]
def rulesText (l : List Rul) : Bs × Nat := if l.length ≤ 100 ∧ l.all rulOk = true then (if 16384 < (rulesL l).length then ([], 2) else (rulesL l, 0)) else ([], 1)
/-- the lines of a text that are not blank, with their offsets -/
def emit (at' : Nat) (line : Bs) (r : List (Nat × Bs)) : List (Nat × Bs) := if line = [] ∨ line.headD 0 = 35 then r else (at', line) :: r
def linesGo (at' : Nat) (cur : Bs) : Bs → List (Nat × Bs)
  | [] => emit at' cur []
  | c :: r => if c = 10 then emit at' cur (linesGo (at' + cur.length + 1) [] r) else linesGo at' (cur ++ [c]) r
def linesL (s : Bs) : List (Nat × Bs) := linesGo 0 [] s
/-- a line divided at its spaces, except those that % quotes -/
def wordsGo (cur : Bs) : Bs → List Bs
  | [] => [cur]
  | c :: r =>
    if c = 37 then
      match r with
      | [] => [cur ++ [37]]
      | d :: t => wordsGo (cur ++ [37, d]) t
    else if c = 32 then cur :: wordsGo [] r
    else wordsGo (cur ++ [c]) r
def wordsL (s : Bs) : List Bs := wordsGo [] s
def unqAll : List Bs → Option (List Bs)
  | [] => some []
  | w :: r => match unquoteL w, unqAll r with
    | some n, some m => some (n :: m)
    | _, _ => none
/-- one line more -/
def addRead : List Coh → List Bs → List Coh
  | [], _ => []
  | [c], r => [{ c with reads := c.reads ++ [r] }]
  | c :: d :: t, r => c :: addRead (d :: t) r
def lastReads (l : List Coh) : Nat := match l.getLast? with | some c => c.reads.length | none => 0
def lineStep (st : List Coh) (line : Bs) : Option (List Coh) :=
  if line.headD 0 = 9 then
    match unqAll (wordsL line.tail) with
    | some ts => if tagsOk 1 20 ts = true ∧ st ≠ [] ∧ lastReads st < 30 then some (addRead st ts) else none
    | none => none
  else
    match unquoteL line with
    | some f => if tagOk f = true ∧ st.length < 200 then some (st ++ [⟨f, []⟩]) else none
    | none => none
/-- lines read one after the other: what has been read, the offset of the line that is wrong, the error -/
def readAll {α : Type} (step : List α → Bs → Option (List α)) : List α → List (Nat × Bs) → List α × Nat × Nat
  | st, [] => (st, 0, 0)
  | st, (p, line) :: r => match step st line with
    | some st' => readAll step st' r
    | none => ([], p, 3)
def readText {α : Type} (step : List α → Bs → Option (List α)) (s : Bs) : List α × Nat × Nat := if 16384 < s.length then ([], 0, 2) else readAll step [] (linesL s)
def parseL (s : Bs) : List Coh × Nat × Nat := readText lineStep s
/-- a suffix of one byte cut off -/
def cutEnd (s : Bs) (c : UInt8) : Bs × Bool := if s.getLast? = some c then (s.dropLast, true) else (s, false)
def cutHead (s : Bs) (c : UInt8) : Bs × Bool := match s with | [] => ([], false) | x :: r => if x = c then (r, true) else (s, false)
/-- the decimal number that Atoi reads; `atoi` is what the library computes -/
def opens (s : Bs) : Bool := s.headD 0 == 40
/-- index of the first word that opens a test, or their number -/
def opensAt : List Bs → Nat
  | [] => 0
  | w :: r => if opens w = true then 0 else opensAt r + 1
def barAt : List Bs → Option Nat
  | [] => none
  | w :: r => if w = [124] then some 0 else (barAt r).map (· + 1)
def hdrRead (atoi : Bs → Option Int) (s : Bs) : Option Tst :=
  let a := cutHead s 33
  let b := cutEnd a.1 67
  let c := cutEnd b.1 42
  match atoi c.1 with
  | some n => some ⟨n, c.2, a.2, b.2, [], []⟩
  | none => none
/-- the names of a test: tags, and what stands behind a bar -/
def namesRead (t : Tst) (names : List Bs) : Option Tst :=
  match barAt names with
  | some k => match unqAll (names.drop (k + 1)), unqAll (names.take k) with
    | some b, some g => some { t with tags := g, barrier := b }
    | _, _ => none
  | none => match unqAll names with
    | some g => some { t with tags := g }
    | none => none
def testRead (atoi : Bs → Option Int) (f : List Bs) : Option Tst :=
  let last := cutEnd (f.getLastD []) 41
  if last.2 = true ∧ 1 < f.length then
    match hdrRead atoi (f.headD []).tail with
    | some t => namesRead t (f.tail.dropLast ++ [last.1])
    | none => none
  else none
def testsRead (atoi : Bs → Option Int) : Nat → List Bs → Option (List Tst)
  | _, [] => some []
  | 0, _ :: _ => none
  | n + 1, w :: r => match testRead atoi (w :: r.take (opensAt r)), testsRead atoi n (r.drop (opensAt r)) with
    | some t, some ts => some (t :: ts)
    | _, _ => none
def ruleRead (atoi : Bs → Option Int) (s : Bs) : Option Rul :=
  let f := wordsL s
  let a := cutEnd (f.headD []) 33
  let g := f.tail
  if opens a.1 = true then none
  else match unqAll (g.take (opensAt g)), testsRead atoi g.length (g.drop (opensAt g)) with
    | some t, some ts => some ⟨if a.1 = selB then 1 else 2, t, ts, a.2⟩
    | _, _ => none
def ruleStep (atoi : Bs → Option Int) (st : List Rul) (line : Bs) : Option (List Rul) :=
  match ruleRead atoi line with
  | some r => if rulOk r = true ∧ ruleL r = line ∧ st.length < 100 then some (st ++ [r]) else none
  | none => none
def rulesRead (atoi : Bs → Option Int) (s : Bs) : List Rul × Nat × Nat := readText (ruleStep atoi) s
/-! ### the reference's lenient reading of a rule -/
def closesGo : Bool → Bs → Bool
  | last, [] => last
  | _, c :: r => if c = 37 then (match r with | [] => false | _ :: t => closesGo false t) else closesGo (c == 41) r
def closes (s : Bs) : Bool := closesGo false s
def namesR (l : List Bs) : List Bs := l.map fun w => (unquoteL w).getD []
def toNum (s : Bs) : Int :=
  let n := (s.take 3).foldl (fun (n : Int) c => if 48 ≤ c.toNat ∧ c.toNat ≤ 57 then 10 * n + (c.toNat - 48 : Nat) else n) 0
  if s.headD 0 = 45 then -n else n
def testR (f : List Bs) : Tst :=
  let a := cutHead (f.headD []) 33
  let b := cutEnd a.1 67
  let c := cutEnd b.1 42
  let l := f.tail
  match barAt l with
  | some k => ⟨toNum c.1, c.2, a.2, b.2, namesR (l.take k), namesR (l.drop (k + 1))⟩
  | none => ⟨toNum c.1, c.2, a.2, b.2, namesR l, []⟩
def closesAt : List Bs → Nat
  | [] => 0
  | w :: r => if closes w = true then 0 else closesAt r + 1
def stripLast (l : List Bs) : List Bs := match l.getLast? with | some w => l.dropLast ++ [w.dropLast] | none => l
def testsR : Nat → List Bs → Option (List Tst)
  | _, [] => some []
  | 0, _ :: _ => none
  | n + 1, w :: r =>
    let k := closesAt (w :: r)
    if k = (w :: r).length ∨ opens w = false then none
    else match testsR n ((w :: r).drop (k + 1)) with
      | some ts => some (testR (stripLast (w.tail :: ((w :: r).take (k + 1)).tail)) :: ts)
      | none => none
def zeroR : Rul := ⟨0, [], [], false⟩
def ruleR (s : Bs) : Rul :=
  let f := wordsL s
  let h := f.headD []
  let g := f.tail
  match testsR g.length (g.drop (opensAt g)) with
  | some ts => ⟨if h.headD 0 = 82 then 2 else 1, namesR (g.take (opensAt g)), ts, decide (h.getLast? = some 33)⟩
  | none => zeroR

/- The plain laws of layer 33: words and lines of what is written. No program in sight. -/
set_option linter.unusedVariables false

theorem wordsGo_plain {c : UInt8} (h1 : c ≠ 37) (h2 : c ≠ 32) (cur r : Bs) : wordsGo cur (c :: r) = wordsGo (cur ++ [c]) r := by
  rw [wordsGo.eq_def]; simp only [if_neg h1, if_neg h2]
theorem wordsGo_space (cur r : Bs) : wordsGo cur (32 :: r) = cur :: wordsGo [] r := by
  rw [wordsGo.eq_def]; simp only [if_neg (show ¬ (32 : UInt8) = 37 by decide), if_true]
theorem wordsGo_two (cur : Bs) (d : UInt8) (t : Bs) : wordsGo cur (37 :: d :: t) = wordsGo (cur ++ [37, d]) t := by
  rw [wordsGo.eq_def]; simp only [if_true]
theorem wordsGo_lone (cur : Bs) : wordsGo cur [37] = [cur ++ [37]] := by
  rw [wordsGo.eq_def]; simp only [if_true]
theorem wordsGo_nil (cur : Bs) : wordsGo cur [] = [cur] := by rw [wordsGo.eq_def]
theorem closesGo_plain {c : UInt8} (h : c ≠ 37) (last : Bool) (r : Bs) : closesGo last (c :: r) = closesGo (c == 41) r := by
  rw [closesGo.eq_def]; simp only [if_neg h]
theorem closesGo_two (last : Bool) (d : UInt8) (t : Bs) : closesGo last (37 :: d :: t) = closesGo false t := by
  rw [closesGo.eq_def]; simp only [if_true]
theorem closesGo_lone (last : Bool) : closesGo last [37] = false := by
  rw [closesGo.eq_def]; simp only [if_true]
/-- a word without an unquoted space, and without a lone % at its end -/
def Solid (w : Bs) : Prop := ∀ cur r, wordsGo cur (w ++ r) = wordsGo (cur ++ w) r
theorem Solid.nil : Solid [] := fun cur r => by simp
theorem Solid.app {a b : Bs} (ha : Solid a) (hb : Solid b) : Solid (a ++ b) := fun cur r => by
  rw [List.append_assoc, ha, hb, List.append_assoc]
theorem Solid.one {c : UInt8} (h1 : c ≠ 37) (h2 : c ≠ 32) : Solid [c] := fun cur r => by
  show wordsGo cur (c :: r) = _
  rw [wordsGo_plain h1 h2]
theorem Solid.two (d : UInt8) : Solid [37, d] := fun cur r => by
  show wordsGo cur (37 :: d :: r) = _
  rw [wordsGo_two]
theorem Solid.all : ∀ (l : Bs), (∀ c ∈ l, c ≠ 37 ∧ c ≠ 32) → Solid l
  | [], _ => Solid.nil
  | c :: r, h => (Solid.one (h c List.mem_cons_self).1 (h c List.mem_cons_self).2).app (Solid.all r fun d hd => h d (List.mem_cons_of_mem _ hd))
theorem Solid.cons {c : UInt8} {l : Bs} (h1 : c ≠ 37) (h2 : c ≠ 32) (h : Solid l) : Solid (c :: l) := (Solid.one h1 h2).app h
/-- a byte that Quote leaves as it is, for sure not one of those with a meaning -/
def plainB (c : UInt8) : Bool := !(c == 37 || c == 32 || c == 40 || c == 41 || c == 124 || c == 35 || c == 9 || c == 10 || c == 33)
/-- made of plain bytes, and of pairs that begin with % -/
inductive Blocks : Bs → Prop
  | nil : Blocks []
  | one {c : UInt8} {r : Bs} : plainB c = true → Blocks r → Blocks (c :: r)
  | two {d : UInt8} {r : Bs} : d ≠ 10 → Blocks r → Blocks (37 :: d :: r)
theorem Blocks.app {a b : Bs} (ha : Blocks a) (hb : Blocks b) : Blocks (a ++ b) := by
  induction ha with
  | nil => exact hb
  | one h _ ih => exact .one h ih
  | two h _ ih => exact .two h ih
theorem Blocks.all : ∀ (l : Bs), (∀ c ∈ l, plainB c = true) → Blocks l
  | [], _ => .nil
  | c :: r, h => .one (h c List.mem_cons_self) (Blocks.all r fun d hd => h d (List.mem_cons_of_mem _ hd))
theorem plainB_ne {c : UInt8} (h : plainB c = true) : c ≠ 37 ∧ c ≠ 32 ∧ c ≠ 40 ∧ c ≠ 41 ∧ c ≠ 124 ∧ c ≠ 35 ∧ c ≠ 9 ∧ c ≠ 10 ∧ c ≠ 33 := by
  unfold plainB at h
  simp only [Bool.not_eq_true', Bool.or_eq_false_iff, beq_eq_false_iff_ne] at h
  exact ⟨h.1.1.1.1.1.1.1.1, h.1.1.1.1.1.1.1.2, h.1.1.1.1.1.1.2, h.1.1.1.1.1.2, h.1.1.1.1.2, h.1.1.1.2, h.1.1.2, h.1.2, h.2⟩
theorem Blocks.solid {w : Bs} (h : Blocks w) : Solid w := by
  induction h with
  | nil => exact Solid.nil
  | one h _ ih => exact Solid.cons (plainB_ne h).1 (plainB_ne h).2.1 ih
  | two h _ ih => exact (Solid.two _).app ih
theorem high_plain {c : UInt8} (h : 128 ≤ c.toNat) : plainB c = true := by
  have : ∀ n : Nat, n < 256 → 128 ≤ n → plainB (UInt8.ofNat n) = true := by decide +kernel
  have := this c.toNat (UInt8.toNat_lt c) h
  rwa [UInt8.ofNat_toNat] at this
theorem hexd_plain (n : Nat) (h : n < 16) : plainB (hexd n) = true := by
  have : ∀ n : Nat, n < 16 → plainB (hexd n) = true := by decide +kernel
  exact this n h
theorem low_plain (c : UInt8) (hb : c.toNat < 128) (hc : ctlB (c.toNat : Int) = false) (h : ¬ (clsOf (c.toNat : Int) = 4 ∨ clsOf (c.toNat : Int) = 5)) : plainB c = true := by
  have : ∀ n : Nat, n < 128 → ctlB (n : Int) = false → ¬ (clsOf (n : Int) = 4 ∨ clsOf (n : Int) = 5) → plainB (UInt8.ofNat n) = true := by decide +kernel
  have := this c.toNat hb hc h
  rwa [UInt8.ofNat_toNat] at this
theorem unitP_blocks (t : Bs) (h : PieceOk t) : Blocks (unitP t) := by
  have hlt := UInt8.toNat_lt (t.headD 0)
  have hx : Blocks (hexL (t.headD 0)) := .two (by decide) (.one (hexd_plain _ (by omega)) (.one (hexd_plain _ (by omega)) .nil))
  unfold unitP
  split
  · exact hx
  · rename_i h1
    have hv : validL t = true := by
      cases hh : validL t with
      | true => rfl
      | false => exact absurd (Or.inl hh) h1
    have hc : ctlB (point t 0).1 = false := by
      cases hh : ctlB (point t 0).1 with
      | false => rfl
      | true => exact absurd (Or.inr hh) h1
    cases t with
    | nil => exact absurd rfl (valid_ne hv)
    | cons x r =>
      have ht : Blocks r := Blocks.all r fun c hc => high_plain (valid_tail hv c hc)
      split
      · refine .two (fun e => ?_) ht
        subst e
        have h2 := (valid_low hv (show (10 : UInt8).toNat < 128 by decide)).2
        rw [h2] at hc
        exact absurd (show ctlB (((10 : UInt8).toNat : Nat) : Int) = false from hc) (by decide +kernel)
      · rename_i h2
        refine .one ?_ ht
        by_cases hb : x.toNat < 128
        · have h3 := (valid_low hv hb).2
          rw [h3] at hc h2
          exact low_plain x hb hc h2
        · exact high_plain (by omega)
theorem quoteP_blocks : ∀ ps : List Bs, (∀ p ∈ ps, PieceOk p) → Blocks (ps.flatMap unitP)
  | [], _ => .nil
  | t :: r, h => by
    rw [List.flatMap_cons]
    exact (unitP_blocks t (h t List.mem_cons_self)).app (quoteP_blocks r fun p hp => h p (List.mem_cons_of_mem _ hp))
theorem quote_blocks (n : Bs) : Blocks (quoteL n) := by
  unfold quoteL
  split
  · exact .two (by decide) .nil
  · exact quoteP_blocks _ (pieces_ok n)
theorem quote_solid (n : Bs) : Solid (quoteL n) := (quote_blocks n).solid
theorem quote_ne (n : Bs) : quoteL n ≠ [] := by
  intro e
  have := unquote_quote n
  rw [e] at this
  have h0 : unquoteL [] = none := by decide +kernel
  rw [h0] at this; cases this
theorem Blocks.head {w : Bs} (h : Blocks w) (hne : w ≠ []) : w.headD 0 = 37 ∨ plainB (w.headD 0) = true := by
  cases h with
  | nil => exact absurd rfl hne
  | one h _ => exact Or.inr h
  | two h _ => exact Or.inl rfl
theorem quote_head (n : Bs) : (quoteL n).headD 0 ≠ 40 ∧ (quoteL n).headD 0 ≠ 9 ∧ (quoteL n).headD 0 ≠ 35 ∧ (quoteL n).headD 0 ≠ 124 := by
  rcases (quote_blocks n).head (quote_ne n) with h | h
  · rw [h]; decide
  · have := plainB_ne h
    exact ⟨this.2.2.1, this.2.2.2.2.2.2.1, this.2.2.2.2.2.1, this.2.2.2.2.1⟩
theorem Blocks.noNl {w : Bs} (h : Blocks w) : 10 ∉ w := by
  induction h with
  | nil => simp
  | one h _ ih => simp only [List.mem_cons, not_or]; exact ⟨fun e => (plainB_ne h).2.2.2.2.2.2.2.1 e.symm, ih⟩
  | two h _ ih => simp only [List.mem_cons, not_or]; exact ⟨by decide, fun e => h e.symm, ih⟩
/-- without an unquoted closing parenthesis -/
def Calm (w : Bs) : Prop := w ≠ [] ∧ ∀ last r, closesGo last (w ++ r) = closesGo false r
theorem Calm.of (w : Bs) (h : w ≠ []) (hc : ∀ c ∈ w, c ≠ 37 ∧ c ≠ 41) : Calm w := by
  refine ⟨h, ?_⟩
  have : ∀ (w : Bs), (∀ c ∈ w, c ≠ 37 ∧ c ≠ 41) → ∀ last r, w ≠ [] → closesGo last (w ++ r) = closesGo false r := by
    intro w
    induction w with
    | nil => intro _ _ _ h; exact absurd rfl h
    | cons c t ih =>
      intro hc last r _
      have h1 := hc c List.mem_cons_self
      have e : (c == 41) = false := beq_eq_false_iff_ne.2 h1.2
      show closesGo last (c :: (t ++ r)) = _
      rw [closesGo_plain h1.1, e]
      by_cases ht : t = []
      · subst ht; rfl
      · exact ih (fun d hd => hc d (List.mem_cons_of_mem _ hd)) false r ht
  exact fun last r => this w hc last r h
theorem Blocks.closes {w : Bs} (h : Blocks w) : ∀ last r, w ≠ [] → closesGo last (w ++ r) = closesGo false r := by
  induction h with
  | nil => intro _ _ h; exact absurd rfl h
  | @one c t h _ ih =>
    intro last r _
    have h1 := plainB_ne h
    have e : (c == 41) = false := beq_eq_false_iff_ne.2 h1.2.2.2.1
    show closesGo last (c :: (t ++ r)) = _
    rw [closesGo_plain h1.1, e]
    by_cases ht : t = []
    · subst ht; rfl
    · exact ih false r ht
  | @two d t h _ ih =>
    intro last r _
    show closesGo last (37 :: d :: (t ++ r)) = _
    rw [closesGo_two]
    by_cases ht : t = []
    · subst ht; rfl
    · exact ih false r ht
theorem quote_calm (n : Bs) : Calm (quoteL n) := ⟨quote_ne n, fun last r => (quote_blocks n).closes last r (quote_ne n)⟩
theorem Calm.closes {w : Bs} (h : Calm w) : closes w = false := by
  have := h.2 false []
  rw [List.append_nil] at this
  unfold Go.Proofs.YtplipnchkkhdaaaGreatDoor.closes
  rw [this]; rfl
theorem Calm.closed {w : Bs} (h : Calm w) : Go.Proofs.YtplipnchkkhdaaaGreatDoor.closes (w ++ [41]) = true := by
  unfold Go.Proofs.YtplipnchkkhdaaaGreatDoor.closes
  rw [h.2]; rfl
theorem words_solid {w : Bs} (h : Solid w) : wordsL w = [w] := by
  have := h [] []
  rw [List.append_nil, List.nil_append] at this
  unfold wordsL
  rw [this]; rfl
theorem words_join : ∀ (l : List Bs), l ≠ [] → (∀ w ∈ l, Solid w) → wordsL (joinS l) = l
  | [], h, _ => absurd rfl h
  | [x], _, h => words_solid (h x List.mem_cons_self)
  | x :: y :: r, _, h => by
    have hx := h x List.mem_cons_self [] (32 :: joinS (y :: r))
    have ih := words_join (y :: r) (by simp) (fun w hw => h w (List.mem_cons_of_mem _ hw))
    unfold wordsL at ih ⊢
    rw [joinS, hx, wordsGo_space, ih]
    rfl
theorem wordsGo_ne (s : Bs) : ∀ (n : Nat) (cur : Bs), s.length ≤ n → wordsGo cur s ≠ [] := by
  intro n
  induction n generalizing s with
  | zero => intro cur h; obtain rfl : s = [] := List.eq_nil_of_length_eq_zero (by omega); rw [wordsGo_nil]; simp
  | succ n ih =>
    intro cur h
    cases s with
    | nil => rw [wordsGo_nil]; simp
    | cons c r =>
      simp only [List.length_cons] at h
      by_cases h1 : c = 37
      · subst h1
        cases r with
        | nil => rw [wordsGo_lone]; simp
        | cons d t => rw [wordsGo_two]; exact ih t _ (by simp only [List.length_cons] at h; omega)
      · by_cases h2 : c = 32
        · subst h2; rw [wordsGo_space]; simp
        · rw [wordsGo_plain h1 h2]; exact ih r _ (by omega)
theorem words_ne (s : Bs) : wordsL s ≠ [] := wordsGo_ne s _ _ (Nat.le_refl _)
theorem joinS_cons (x : Bs) {l : List Bs} (h : l ≠ []) : joinS (x :: l) = x ++ 32 :: joinS l := by
  cases l with
  | nil => exact absurd rfl h
  | cons y r => rfl
theorem join_wordsGo : ∀ (n : Nat) (s cur : Bs), s.length ≤ n → joinS (wordsGo cur s) = cur ++ s := by
  intro n
  induction n with
  | zero => intro s cur h; obtain rfl : s = [] := List.eq_nil_of_length_eq_zero (by omega); rw [wordsGo_nil]; simp [joinS]
  | succ n ih =>
    intro s cur h
    cases s with
    | nil => rw [wordsGo_nil]; simp [joinS]
    | cons c r =>
      simp only [List.length_cons] at h
      by_cases h1 : c = 37
      · subst h1
        cases r with
        | nil => rw [wordsGo_lone]; rfl
        | cons d t => rw [wordsGo_two, ih t _ (by simp only [List.length_cons] at h; omega)]; simp
      · by_cases h2 : c = 32
        · subst h2; rw [wordsGo_space, joinS_cons _ (wordsGo_ne r _ _ (Nat.le_refl _)), ih r [] (by omega)]; simp
        · rw [wordsGo_plain h1 h2, ih r _ (by omega)]; simp
/-- the words of a line, with a space between two of them, are the line -/
theorem join_words (s : Bs) : joinS (wordsL s) = s := by
  unfold wordsL
  rw [join_wordsGo _ s [] (Nat.le_refl _)]; rfl
/-! ### unquoting -/
theorem unquote_some {w n : Bs} (h : unquoteL w = some n) : quoteL n = w := by
  unfold unquoteL at h
  split at h
  · rename_i e
    cases h; rw [e]; rfl
  · split at h
    · split at h
      · rename_i e; cases h; exact e
      · cases h
    · cases h
theorem unqAll_some : ∀ {l m : List Bs}, unqAll l = some m → m.map quoteL = l
  | [], m, h => by cases h; rfl
  | w :: r, m, h => by
    unfold unqAll at h
    split at h
    · rename_i n m' h1 h2
      cases h
      rw [List.map_cons, unquote_some h1, unqAll_some h2]
    · cases h
theorem unqAll_back : ∀ (m : List Bs), unqAll (m.map quoteL) = some m
  | [] => rfl
  | n :: m => by rw [List.map_cons, unqAll, unquote_quote, unqAll_back m]
theorem unqAll_names : ∀ {l m : List Bs}, unqAll l = some m → namesR l = m
  | [], m, h => by cases h; rfl
  | w :: r, m, h => by
    unfold unqAll at h
    split at h
    · rename_i n m' h1 h2
      cases h
      show (unquoteL w).getD [] :: namesR r = _
      rw [h1, unqAll_names h2]; rfl
    · cases h
theorem unqAll_none : ∀ {l : List Bs}, unqAll l = none → [] ∈ namesR l
  | [], h => by cases h
  | w :: r, h => by
    unfold unqAll at h
    show [] ∈ (unquoteL w).getD [] :: namesR r
    split at h
    · cases h
    · rename_i hx
      cases h1 : unquoteL w with
      | none => simp
      | some n =>
        cases h2 : unqAll r with
        | none => exact List.mem_cons_of_mem _ (unqAll_none h2)
        | some m => exact absurd h2 (hx n m h1)
theorem tagOk_nil : tagOk [] = false := by unfold tagOk; simp
theorem tagsOk_mem {lo hi : Nat} {l : List Bs} (h : tagsOk lo hi l = true) : ∀ s ∈ l, tagOk s = true := by
  unfold tagsOk at h
  simp only [Bool.and_eq_true, List.all_eq_true] at h
  exact h.2
theorem tagsOk_names {lo hi : Nat} {l : List Bs} : tagsOk lo hi (namesR l) = true ↔ ∃ m, unqAll l = some m ∧ tagsOk lo hi m = true := by
  constructor
  · intro h
    cases hu : unqAll l with
    | none => exact absurd (tagsOk_mem h _ (unqAll_none hu)) (by rw [tagOk_nil]; decide)
    | some m => exact ⟨m, rfl, by rw [← unqAll_names hu]; exact h⟩
  · rintro ⟨m, hu, h⟩
    rw [unqAll_names hu]; exact h
theorem quoted_words {m : List Bs} {s : Bs} (h : unqAll (wordsL s) = some m) : quotedL m = s := by
  unfold quotedL
  rw [unqAll_some h, join_words]
theorem words_quoted {m : List Bs} (h : m ≠ []) : wordsL (quotedL m) = m.map quoteL := by
  unfold quotedL
  refine words_join _ (by simpa using h) ?_
  intro w hw
  obtain ⟨n, _, rfl⟩ := List.mem_map.1 hw
  exact quote_solid n

/- The plain laws of layer 33: the line of a rule is read back, by the program's way and by the reference's. No program in sight. -/
set_option linter.unusedVariables false

theorem joinS_append : ∀ {a b : List Bs}, a ≠ [] → b ≠ [] → joinS (a ++ b) = joinS a ++ 32 :: joinS b
  | [], _, h, _ => absurd rfl h
  | [x], b, _, hb => by rw [List.singleton_append, joinS_cons x hb]; rfl
  | x :: y :: r, b, _, hb => by
    have ih := joinS_append (a := y :: r) (b := b) (by simp) hb
    rw [List.cons_append, joinS_cons x (by simp), ih, joinS_cons x (by simp)]
    simp
theorem getLastD_snoc {α : Type} (a : List α) (x d : α) : (a ++ [x]).getLastD d = x := by simp
/-- the last word closes the test -/
def closeLast (l : List Bs) : List Bs := l.dropLast ++ [l.getLastD [] ++ [41]]
theorem closeLast_append (a : List Bs) (x : Bs) : closeLast (a ++ [x]) = a ++ [x ++ [41]] := by
  unfold closeLast
  simp
theorem snoc_of {α : Type} {l : List α} (h : l ≠ []) : ∃ a x, l = a ++ [x] := ⟨l.dropLast, l.getLast h, (List.dropLast_concat_getLast h).symm⟩
theorem join_snoc (a : List Bs) (x y : Bs) : joinS (a ++ [x ++ y]) = joinS (a ++ [x]) ++ y := by
  cases a with
  | nil => rfl
  | cons b t =>
    rw [joinS_append (by simp) (by simp), joinS_append (by simp) (by simp)]
    simp [joinS]
theorem join_closeLast {l : List Bs} (h : l ≠ []) : joinS (closeLast l) = joinS l ++ [41] := by
  obtain ⟨a, x, rfl⟩ := snoc_of h
  rw [closeLast_append, join_snoc]
/-- the words of a test, behind its header -/
def tailW (t : Tst) : List Bs := t.tags.map quoteL ++ (if t.barrier = [] then [] else [124] :: t.barrier.map quoteL)
def testW (t : Tst) : List Bs := hdrL t :: closeLast (tailW t)
theorem isEmpty_false {α : Type} {l : List α} (h : l ≠ []) : l.isEmpty = false := by cases l <;> simp_all
theorem tailW_ne {t : Tst} (h : t.tags ≠ []) : tailW t ≠ [] := by unfold tailW; simp [h]
theorem join_test {t : Tst} (h : t.tags ≠ []) : joinS (testW t) = testL t := by
  have hm : t.tags.map quoteL ≠ [] := by simpa using h
  have hne := tailW_ne h
  have hcl : closeLast (tailW t) ≠ [] := by unfold closeLast; simp
  unfold testW testL
  rw [joinS_cons _ hcl, join_closeLast hne]
  unfold tailW quotedL
  by_cases hb : t.barrier = []
  · rw [if_pos hb, hb]; simp [optL]
  · rw [if_neg hb, joinS_append hm (by simp), isEmpty_false hb, joinS_cons _ (by simpa using hb)]
    simp [optL]
theorem tstOk_parts {t : Tst} (h : tstOk t = true) : (-99 ≤ t.at_ ∧ t.at_ ≤ 99) ∧ ¬ (t.scan = true ∧ t.at_ = 0) ∧ t.tags ≠ [] ∧ tagsOk 1 20 t.tags = true ∧ tagsOk 0 20 t.barrier = true ∧ (t.scan = false → t.barrier = []) := by
  unfold tstOk at h
  simp only [Bool.and_eq_true, Bool.not_eq_true', decide_eq_true_eq] at h
  obtain ⟨⟨⟨⟨⟨h1, h2⟩, h3⟩, h4⟩, h5⟩, h6⟩ := h
  refine ⟨⟨h1, h2⟩, ?_, ?_, h4, h5, ?_⟩
  · rintro ⟨a, b⟩
    rw [a, b] at h3
    exact absurd h3 (by decide)
  · intro e
    rw [e] at h4
    exact absurd h4 (by decide)
  · intro e
    rw [e] at h6
    cases hb : t.barrier with
    | nil => rfl
    | cons x r => rw [hb] at h6; simp at h6
theorem rulOk_parts {r : Rul} (h : rulOk r = true) : (r.op = 1 ∨ r.op = 2) ∧ r.target ≠ [] ∧ tagsOk 1 20 r.target = true ∧ r.tests.length ≤ 10 ∧ ∀ t ∈ r.tests, tstOk t = true := by
  unfold rulOk at h
  simp only [Bool.and_eq_true, Bool.or_eq_true, decide_eq_true_eq, List.all_eq_true] at h
  obtain ⟨⟨⟨h1, h2⟩, h3⟩, h4⟩ := h
  refine ⟨h1, ?_, h2, h3, h4⟩
  intro e
  rw [e] at h2
  exact absurd h2 (by decide)
def ruleW (r : Rul) : List Bs := headL r :: (r.target.map quoteL ++ r.tests.flatMap testW)
theorem join_tests : ∀ (a : List Bs) (ts : List Tst), a ≠ [] → (∀ t ∈ ts, t.tags ≠ []) → joinS (a ++ ts.flatMap testW) = joinS a ++ ts.flatMap fun t => 32 :: testL t
  | a, [], _, _ => by simp
  | a, t :: ts, ha, h => by
    have ht := h t List.mem_cons_self
    have hW : testW t ≠ [] := by unfold testW; simp
    have ih := join_tests (a ++ testW t) ts (by simp [ha]) (fun u hu => h u (List.mem_cons_of_mem _ hu))
    rw [List.flatMap_cons, ← List.append_assoc, ih, joinS_append ha hW, join_test ht, List.flatMap_cons]
    simp
theorem join_rule {r : Rul} (h : r.target ≠ []) (ht : ∀ t ∈ r.tests, t.tags ≠ []) : joinS (ruleW r) = ruleL r := by
  have hm : r.target.map quoteL ≠ [] := by simpa using h
  unfold ruleW ruleL quotedL
  rw [← List.cons_append, join_tests _ _ (by simp) ht, joinS_cons _ hm]
/-! the bytes of a number -/
def numByte (c : UInt8) : Bool := c == 45 || (decide (48 ≤ c.toNat) && decide (c.toNat ≤ 57))
theorem decL_bytes {n : Nat} (h : n ≤ 99) : (∀ c ∈ decL n, numByte c = true) ∧ ∃ a d, decL n = a ++ [d] ∧ numByte d = true := by
  have : ∀ n : Nat, n < 100 → (decL n).all numByte = true ∧ (decL n).getLast?.isSome = true := by decide +kernel
  obtain ⟨h1, h2⟩ := this n (by omega)
  rw [List.all_eq_true] at h1
  refine ⟨h1, ?_⟩
  have hne : decL n ≠ [] := by intro e; rw [e] at h2; cases h2
  obtain ⟨a, d, e⟩ := snoc_of hne
  exact ⟨a, d, e, h1 d (by rw [e]; simp)⟩
theorem numL_bytes {n : Int} (h : -99 ≤ n ∧ n ≤ 99) : (∀ c ∈ numL n, numByte c = true) ∧ ∃ a d, numL n = a ++ [d] ∧ numByte d = true := by
  obtain ⟨h1, a, d, e, hd⟩ := decL_bytes (n := n.natAbs) (by omega)
  unfold numL
  split
  · refine ⟨fun c hc => ?_, 45 :: a, d, by rw [e]; rfl, hd⟩
    rcases List.mem_cons.1 hc with rfl | hc
    · decide
    · exact h1 c hc
  · exact ⟨h1, a, d, e, hd⟩
theorem numByte_ne {c : UInt8} (h : numByte c = true) : c ≠ 37 ∧ c ≠ 32 ∧ c ≠ 41 ∧ c ≠ 33 ∧ c ≠ 67 ∧ c ≠ 42 := by
  have : ∀ n : Nat, n < 256 → numByte (UInt8.ofNat n) = true → UInt8.ofNat n ≠ 37 ∧ UInt8.ofNat n ≠ 32 ∧ UInt8.ofNat n ≠ 41 ∧ UInt8.ofNat n ≠ 33 ∧ UInt8.ofNat n ≠ 67 ∧ UInt8.ofNat n ≠ 42 := by decide +kernel
  have := this c.toNat (UInt8.toNat_lt c)
  rw [UInt8.ofNat_toNat] at this
  exact this h
theorem optL_mem {b : Bool} {l : Bs} {c : UInt8} (h : c ∈ optL b l) : c ∈ l := by
  unfold optL at h; split at h
  · exact h
  · cases h
theorem hdr_bytes {t : Tst} (h : -99 ≤ t.at_ ∧ t.at_ ≤ 99) : ∀ c ∈ hdrL t, c ≠ 37 ∧ c ≠ 32 ∧ c ≠ 41 := by
  intro c hc
  unfold hdrL at hc
  simp only [List.mem_cons, List.mem_append] at hc
  rcases hc with rfl | ((hc | hc) | hc) | hc
  · decide
  · have := optL_mem hc; simp only [List.mem_singleton] at this; subst this; decide
  · have := numByte_ne ((numL_bytes h).1 c hc); exact ⟨this.1, this.2.1, this.2.2.1⟩
  · have := optL_mem hc; simp only [List.mem_singleton] at this; subst this; decide
  · have := optL_mem hc; simp only [List.mem_singleton] at this; subst this; decide
theorem head_bytes (r : Rul) : ∀ c ∈ headL r, c ≠ 37 ∧ c ≠ 32 := by
  have h1 : ∀ c ∈ remB ++ [33], c ≠ 37 ∧ c ≠ 32 := by decide
  have h2 : ∀ c ∈ selB ++ [33], c ≠ 37 ∧ c ≠ 32 := by decide
  intro c hc
  unfold headL at hc
  rcases List.mem_append.1 hc with hc | hc
  · split at hc
    · exact h1 c (List.mem_append_left _ hc)
    · exact h2 c (List.mem_append_left _ hc)
  · exact h1 c (List.mem_append_right _ (optL_mem hc))
theorem solid_rule {r : Rul} (ht : ∀ t ∈ r.tests, -99 ≤ t.at_ ∧ t.at_ ≤ 99) (hg : ∀ t ∈ r.tests, t.tags ≠ []) : ∀ w ∈ ruleW r, Solid w := by
  have hq : ∀ (l : List Bs), ∀ w ∈ l.map quoteL, Solid w := fun l w hw => by
    obtain ⟨n, _, rfl⟩ := List.mem_map.1 hw
    exact quote_solid n
  intro w hw
  unfold ruleW at hw
  rcases List.mem_cons.1 hw with rfl | hw
  · exact Solid.all _ (head_bytes r)
  rcases List.mem_append.1 hw with hw | hw
  · exact hq _ w hw
  · obtain ⟨t, htm, hw⟩ := List.mem_flatMap.1 hw
    unfold testW at hw
    have htail : ∀ w ∈ tailW t, Solid w := by
      intro w hw
      unfold tailW at hw
      rcases List.mem_append.1 hw with hw | hw
      · exact hq _ w hw
      · split at hw
        · cases hw
        · rcases List.mem_cons.1 hw with rfl | hw
          · exact Solid.one (by decide) (by decide)
          · exact hq _ w hw
    rcases List.mem_cons.1 hw with rfl | hw
    · exact Solid.all _ fun c hc => let h := hdr_bytes (ht t htm) c hc; ⟨h.1, h.2.1⟩
    · obtain ⟨a, x, e⟩ := snoc_of (tailW_ne (hg t htm))
      rw [e, closeLast_append] at hw
      rcases List.mem_append.1 hw with hw | hw
      · exact htail w (by rw [e]; exact List.mem_append_left _ hw)
      · simp only [List.mem_singleton] at hw
        subst hw
        exact (htail x (by rw [e]; simp)).app (Solid.one (by decide) (by decide))
/-- the words of a rule's line -/
theorem words_rule {r : Rul} (h : rulOk r = true) : wordsL (ruleL r) = ruleW r := by
  obtain ⟨_, h2, _, _, h5⟩ := rulOk_parts h
  rw [← join_rule h2 (fun t ht => (tstOk_parts (h5 t ht)).2.2.1)]
  exact words_join _ (by unfold ruleW; simp) (solid_rule (fun t ht => (tstOk_parts (h5 t ht)).1) (fun t ht => (tstOk_parts (h5 t ht)).2.2.1))
/-! ### reading it back -/
theorem opens_quote (n : Bs) : opens (quoteL n) = false := beq_eq_false_iff_ne.2 (quote_head n).1
theorem opensAt_map : ∀ (l : List Bs) (r : List Bs), opensAt (l.map quoteL ++ r) = l.length + opensAt r
  | [], r => by simp
  | n :: l, r => by
    rw [List.map_cons, List.cons_append, opensAt, if_neg (by rw [opens_quote]; decide), opensAt_map l r, List.length_cons]; omega
theorem opensAt_skip : ∀ (l : List Bs) (r : List Bs), (∀ w ∈ l, opens w = false) → opensAt (l ++ r) = l.length + opensAt r
  | [], r, _ => by simp
  | w :: l, r, h => by
    rw [List.cons_append, opensAt, if_neg (by rw [h w List.mem_cons_self]; decide), opensAt_skip l r (fun u hu => h u (List.mem_cons_of_mem _ hu)), List.length_cons]; omega
theorem opens_app (w r : Bs) (h : w ≠ []) : opens (w ++ r) = opens w := by unfold opens; rw [head_app r h]
theorem tailW_opens (t : Tst) : ∀ w ∈ tailW t, opens w = false ∧ w ≠ [] := by
  have hq : ∀ (l : List Bs), ∀ w ∈ l.map quoteL, opens w = false ∧ w ≠ [] := fun l w hw => by
    obtain ⟨n, _, rfl⟩ := List.mem_map.1 hw
    exact ⟨opens_quote n, quote_ne n⟩
  intro w hw
  unfold tailW at hw
  rcases List.mem_append.1 hw with hw | hw
  · exact hq _ w hw
  · split at hw
    · cases hw
    · rcases List.mem_cons.1 hw with rfl | hw
      · exact ⟨rfl, by simp⟩
      · exact hq _ w hw
theorem closeLast_opens {t : Tst} (h : t.tags ≠ []) : ∀ w ∈ closeLast (tailW t), opens w = false := by
  obtain ⟨a, x, e⟩ := snoc_of (tailW_ne h)
  have ht := tailW_opens t
  intro w hw
  rw [e, closeLast_append] at hw
  rcases List.mem_append.1 hw with hw | hw
  · exact (ht w (by rw [e]; exact List.mem_append_left _ hw)).1
  · simp only [List.mem_singleton] at hw
    subst hw
    have hx := ht x (by rw [e]; simp)
    rw [opens_app x _ hx.2]
    exact hx.1
theorem opens_tests (ts : List Tst) : opensAt (ts.flatMap testW) = 0 := by
  cases ts with
  | nil => rfl
  | cons t r =>
    rw [List.flatMap_cons]
    show opensAt (hdrL t :: _) = 0
    rw [opensAt, if_pos (by rfl)]
theorem cutEnd_snoc (a : Bs) (c : UInt8) : cutEnd (a ++ [c]) c = (a, true) := by
  unfold cutEnd
  rw [List.getLast?_append]
  simp
theorem cutEnd_no {s : Bs} {c : UInt8} (a : Bs) (d : UInt8) (h : s = a ++ [d]) (hd : d ≠ c) : cutEnd s c = (s, false) := by
  unfold cutEnd
  rw [h, List.getLast?_append]
  rw [if_neg (by simpa using hd)]
/-- what stands behind the parenthesis -/
theorem hdr_cut {t : Tst} (h : -99 ≤ t.at_ ∧ t.at_ ≤ 99) :
    cutHead (hdrL t).tail 33 = (numL t.at_ ++ optL t.scan [42] ++ optL t.careful [67], t.not_) ∧ cutEnd (numL t.at_ ++ optL t.scan [42] ++ optL t.careful [67]) 67 = (numL t.at_ ++ optL t.scan [42], t.careful) ∧
    cutEnd (numL t.at_ ++ optL t.scan [42]) 42 = (numL t.at_, t.scan) := by
  obtain ⟨hb, a, d, e, hd⟩ := numL_bytes h
  have hn := numByte_ne hd
  refine ⟨?_, ?_, ?_⟩
  · unfold hdrL
    cases hnot : t.not_ with
    | true => rfl
    | false =>
      show cutHead (numL t.at_ ++ optL t.scan [42] ++ optL t.careful [67]) 33 = _
      cases hl : numL t.at_ with
      | nil => rw [hl] at e; simp at e
      | cons x r =>
        have := numByte_ne (hb x (by rw [hl]; simp))
        show (if x = 33 then _ else _) = _
        rw [if_neg this.2.2.2.1]
  · cases hc : t.careful with
    | true => exact cutEnd_snoc _ _
    | false =>
      show cutEnd (numL t.at_ ++ optL t.scan [42] ++ []) 67 = _
      rw [List.append_nil]
      cases hs : t.scan with
      | true => exact cutEnd_no (numL t.at_) 42 rfl (by decide)
      | false =>
        refine cutEnd_no a d ?_ hn.2.2.2.2.1
        show numL t.at_ ++ [] = _
        rw [List.append_nil, e]
  · cases hs : t.scan with
    | true => exact cutEnd_snoc _ _
    | false =>
      show cutEnd (numL t.at_ ++ []) 42 = _
      rw [List.append_nil]
      exact cutEnd_no a d e hn.2.2.2.2.2
theorem bar_quote (n : Bs) : quoteL n ≠ [124] := fun e => (quote_head n).2.2.2 (by rw [e]; rfl)
theorem barAt_map : ∀ (l r : List Bs), barAt (l.map quoteL ++ r) = (barAt r).map (· + l.length)
  | [], r => by cases h : barAt r <;> simp [h]
  | n :: l, r => by
    rw [List.map_cons, List.cons_append, barAt, if_neg (bar_quote n), barAt_map l r]
    cases barAt r <;> simp; omega
theorem bar_tail (t : Tst) : (t.barrier = [] → barAt (tailW t) = none ∧ tailW t = t.tags.map quoteL) ∧
    (t.barrier ≠ [] → barAt (tailW t) = some t.tags.length ∧ (tailW t).take t.tags.length = t.tags.map quoteL ∧ (tailW t).drop (t.tags.length + 1) = t.barrier.map quoteL) := by
  constructor
  · intro h
    have e : tailW t = t.tags.map quoteL := by unfold tailW; rw [if_pos h, List.append_nil]
    refine ⟨?_, e⟩
    have := barAt_map t.tags []
    rw [List.append_nil] at this
    rw [e, this]; rfl
  · intro h
    have e : tailW t = t.tags.map quoteL ++ [124] :: t.barrier.map quoteL := by unfold tailW; rw [if_neg h]
    refine ⟨?_, ?_, ?_⟩
    · rw [e, barAt_map, barAt, if_pos rfl]; simp
    · rw [e]
      have : t.tags.length = (t.tags.map quoteL).length := by simp
      rw [this, List.take_left]
    · rw [e]
      have : t.tags.length + 1 = (t.tags.map quoteL ++ [[124]]).length := by simp
      rw [this, show t.tags.map quoteL ++ [124] :: t.barrier.map quoteL = (t.tags.map quoteL ++ [[124]]) ++ t.barrier.map quoteL by simp, List.drop_left]
section
variable {atoi : Bs → Option Int} (hA : ∀ n : Int, -99 ≤ n ∧ n ≤ 99 → atoi (numL n) = some n)
include hA
theorem testRead_back {t : Tst} (h : tstOk t = true) : testRead atoi (testW t) = some t := by
  obtain ⟨h1, h2, h3, h4, h5, h6⟩ := tstOk_parts h
  obtain ⟨a, x, e⟩ := snoc_of (tailW_ne h3)
  obtain ⟨c1, c2, c3⟩ := hdr_cut h1
  have hW : testW t = hdrL t :: (a ++ [x ++ [41]]) := by unfold testW; rw [e, closeLast_append]
  have hlast : (testW t).getLastD [] = x ++ [41] := by rw [hW]; exact getLastD_snoc (hdrL t :: a) _ _
  have hh : hdrRead atoi (hdrL t).tail = some ⟨t.at_, t.scan, t.not_, t.careful, [], []⟩ := by
    unfold hdrRead
    simp only [c1, c2, c3, hA _ h1]
  unfold testRead
  simp only [hlast, cutEnd_snoc]
  rw [if_pos ⟨trivial, by rw [hW]; simp⟩]
  rw [hW]
  show (match hdrRead atoi (hdrL t).tail with | some t => _ | none => _) = _
  rw [hh]
  show namesRead _ ((a ++ [x ++ [41]]).dropLast ++ [x]) = _
  rw [List.dropLast_concat, ← e]
  unfold namesRead
  obtain ⟨b1, b2⟩ := bar_tail t
  by_cases hb : t.barrier = []
  · obtain ⟨e1, e2⟩ := b1 hb
    rw [e1]
    simp only
    rw [e2, unqAll_back]
    simp only
    cases t; simp_all
  · obtain ⟨e1, e2, e3⟩ := b2 hb
    rw [e1]
    simp only
    rw [e2, e3, unqAll_back, unqAll_back]
theorem testsRead_back : ∀ (ts : List Tst) (n : Nat), ts.length ≤ n → (∀ t ∈ ts, tstOk t = true) → testsRead atoi n (ts.flatMap testW) = some ts
  | [], n, _, _ => by cases n <;> rfl
  | t :: ts, 0, h, _ => by simp at h
  | t :: ts, n + 1, h, hk => by
    have ht := hk t List.mem_cons_self
    have h3 := (tstOk_parts ht).2.2.1
    have hop := opensAt_skip (closeLast (tailW t)) (ts.flatMap testW) (closeLast_opens h3)
    rw [opens_tests, Nat.add_zero] at hop
    rw [List.flatMap_cons]
    show testsRead atoi (n + 1) (hdrL t :: (closeLast (tailW t) ++ ts.flatMap testW)) = _
    rw [testsRead, hop, List.take_left, List.drop_left, testsRead_back ts n (by simp at h; omega) (fun u hu => hk u (List.mem_cons_of_mem _ hu))]
    have := testRead_back hA ht
    unfold testW at this
    rw [this]
theorem ruleRead_back {r : Rul} (h : rulOk r = true) : ruleRead atoi (ruleL r) = some r := by
  obtain ⟨h1, h2, h3, h4, h5⟩ := rulOk_parts h
  have hop : opensAt (r.target.map quoteL ++ r.tests.flatMap testW) = r.target.length := by rw [opensAt_map, opens_tests]; rfl
  have hlen : r.tests.length ≤ (r.target.map quoteL ++ r.tests.flatMap testW).length := by
    rw [List.length_append]
    have : ∀ ts : List Tst, ts.length ≤ (ts.flatMap testW).length := by
      intro ts
      induction ts with
      | nil => simp
      | cons t ts ih => rw [List.flatMap_cons, List.length_append, List.length_cons]; have : 1 ≤ (testW t).length := by unfold testW; simp
                        omega
    have := this r.tests
    omega
  have hhead : cutEnd (headL r) 33 = (if r.op = 2 then remB else selB, r.uns) := by
    unfold headL
    cases r.uns with
    | true => exact cutEnd_snoc _ _
    | false =>
      show cutEnd ((if r.op = 2 then remB else selB) ++ []) 33 = _
      rw [List.append_nil]
      split <;> rfl
  have ht : (r.target.map quoteL ++ r.tests.flatMap testW).take r.target.length = r.target.map quoteL := by
    have : r.target.length = (r.target.map quoteL).length := by simp
    rw [this, List.take_left]
  have hd : (r.target.map quoteL ++ r.tests.flatMap testW).drop r.target.length = r.tests.flatMap testW := by
    have : r.target.length = (r.target.map quoteL).length := by simp
    rw [this, List.drop_left]
  unfold ruleRead
  rw [words_rule h]
  unfold ruleW
  simp only [List.headD_cons, List.tail_cons, hhead, hop, ht, hd]
  rw [if_neg (by split <;> decide), unqAll_back, testsRead_back hA _ _ hlen h5]
  simp only
  obtain ⟨op, target, tests, uns⟩ := r
  simp only at h1
  rcases h1 with rfl | rfl <;> rfl
end
/-! ### the reference's way -/
theorem toNum_back {n : Int} (h : -99 ≤ n ∧ n ≤ 99) : toNum (numL n) = n := by
  have p : ∀ k : Nat, k < 100 → toNum (numL (k : Int)) = (k : Int) ∧ toNum (numL (-(k : Int))) = -(k : Int) := by decide +kernel
  have := p n.natAbs (by omega)
  rcases Int.natAbs_eq n with e | e
  · rw [e]; exact this.1
  · rw [e]; exact this.2
theorem namesR_back (m : List Bs) : namesR (m.map quoteL) = m := unqAll_names (unqAll_back m)
theorem testR_back {t : Tst} (h : tstOk t = true) : testR ((hdrL t).tail :: tailW t) = t := by
  obtain ⟨h1, h2, h3, h4, h5, h6⟩ := tstOk_parts h
  obtain ⟨c1, c2, c3⟩ := hdr_cut h1
  obtain ⟨b1, b2⟩ := bar_tail t
  unfold testR
  simp only [List.headD_cons, List.tail_cons, c1, c2, c3, toNum_back h1]
  by_cases hb : t.barrier = []
  · obtain ⟨e1, e2⟩ := b1 hb
    rw [e1]
    simp only
    rw [e2, namesR_back]
    cases t; simp_all
  · obtain ⟨e1, e2, e3⟩ := b2 hb
    rw [e1]
    simp only
    rw [e2, e3, namesR_back, namesR_back]
theorem closesAt_skip : ∀ (l : List Bs) (x : Bs) (r : List Bs), (∀ w ∈ l, closes w = false) → closes x = true → closesAt (l ++ x :: r) = l.length
  | [], x, r, _, hx => by rw [List.nil_append, closesAt, if_pos hx]; rfl
  | w :: l, x, r, h, hx => by
    rw [List.cons_append, closesAt, if_neg (by rw [h w List.mem_cons_self]; decide), closesAt_skip l x r (fun u hu => h u (List.mem_cons_of_mem _ hu)) hx, List.length_cons]
theorem tailW_calm (t : Tst) : ∀ w ∈ tailW t, Calm w := by
  have hq : ∀ (l : List Bs), ∀ w ∈ l.map quoteL, Calm w := fun l w hw => by
    obtain ⟨n, _, rfl⟩ := List.mem_map.1 hw
    exact quote_calm n
  intro w hw
  unfold tailW at hw
  rcases List.mem_append.1 hw with hw | hw
  · exact hq _ w hw
  · split at hw
    · cases hw
    · rcases List.mem_cons.1 hw with rfl | hw
      · exact Calm.of _ (by simp) (by decide)
      · exact hq _ w hw
theorem hdr_calm {t : Tst} (h : -99 ≤ t.at_ ∧ t.at_ ≤ 99) : Calm (hdrL t) :=
  Calm.of _ (by unfold hdrL; simp) fun c hc => let h := hdr_bytes h c hc; ⟨h.1, h.2.2⟩
theorem testsR_back : ∀ (ts : List Tst) (n : Nat), ts.length ≤ n → (∀ t ∈ ts, tstOk t = true) → testsR n (ts.flatMap testW) = some ts
  | [], n, _, _ => by cases n <;> rfl
  | t :: ts, 0, h, _ => by simp at h
  | t :: ts, n + 1, h, hk => by
    have ht := hk t List.mem_cons_self
    obtain ⟨h1, h2, h3, h4, h5, h6⟩ := tstOk_parts ht
    obtain ⟨a, x, e⟩ := snoc_of (tailW_ne h3)
    have hc := tailW_calm t
    have hcx : closes (x ++ [41]) = true := (hc x (by rw [e]; simp)).closed
    have hca : ∀ w ∈ hdrL t :: a, closes w = false := by
      intro w hw
      rcases List.mem_cons.1 hw with rfl | hw
      · exact (hdr_calm h1).closes
      · exact (hc w (by rw [e]; exact List.mem_append_left _ hw)).closes
    have hk' := closesAt_skip (hdrL t :: a) (x ++ [41]) (ts.flatMap testW) hca hcx
    have hW : (t :: ts).flatMap testW = hdrL t :: (a ++ (x ++ [41]) :: ts.flatMap testW) := by
      rw [List.flatMap_cons]
      show hdrL t :: (closeLast (tailW t) ++ _) = _
      rw [e, closeLast_append]; simp
    have hdrop : (hdrL t :: (a ++ (x ++ [41]) :: ts.flatMap testW)).drop ((hdrL t :: a).length + 1) = ts.flatMap testW := by
      have e1 : hdrL t :: (a ++ (x ++ [41]) :: ts.flatMap testW) = (hdrL t :: a ++ [x ++ [41]]) ++ ts.flatMap testW := by simp
      have e2 : (hdrL t :: a).length + 1 = (hdrL t :: a ++ [x ++ [41]]).length := by simp
      rw [e1, e2, List.drop_left]
    have htake : (hdrL t :: (a ++ (x ++ [41]) :: ts.flatMap testW)).take ((hdrL t :: a).length + 1) = hdrL t :: (a ++ [x ++ [41]]) := by
      have e1 : hdrL t :: (a ++ (x ++ [41]) :: ts.flatMap testW) = (hdrL t :: a ++ [x ++ [41]]) ++ ts.flatMap testW := by simp
      have e2 : (hdrL t :: a).length + 1 = (hdrL t :: a ++ [x ++ [41]]).length := by simp
      rw [e1, e2, List.take_left]; simp
    have hstrip : stripLast ((hdrL t).tail :: (a ++ [x ++ [41]])) = (hdrL t).tail :: tailW t := by
      unfold stripLast
      have : ((hdrL t).tail :: (a ++ [x ++ [41]])) = ((hdrL t).tail :: a) ++ [x ++ [41]] := by simp
      rw [this, List.getLast?_append]
      simp only [List.getLast?_singleton, Option.some_or]
      rw [List.dropLast_concat, List.dropLast_concat, e]; simp
    rw [hW, testsR]
    have hk2 : closesAt (hdrL t :: (a ++ (x ++ [41]) :: ts.flatMap testW)) = (hdrL t :: a).length := hk'
    simp only [hk2]
    rw [if_neg (by
      rintro (h | h)
      · simp only [List.length_cons, List.length_append] at h; omega
      · cases (show true = false from h)), hdrop, htake, testsR_back ts n (by simp at h; omega) (fun u hu => hk u (List.mem_cons_of_mem _ hu))]
    simp only [List.tail_cons]
    rw [hstrip, testR_back ht]
theorem ruleR_back {r : Rul} (h : rulOk r = true) : ruleR (ruleL r) = r := by
  obtain ⟨h1, h2, h3, h4, h5⟩ := rulOk_parts h
  have hop : opensAt (r.target.map quoteL ++ r.tests.flatMap testW) = r.target.length := by rw [opensAt_map, opens_tests]; rfl
  have hlen : r.tests.length ≤ (r.target.map quoteL ++ r.tests.flatMap testW).length := by
    rw [List.length_append]
    have : ∀ ts : List Tst, ts.length ≤ (ts.flatMap testW).length := by
      intro ts
      induction ts with
      | nil => simp
      | cons t ts ih => rw [List.flatMap_cons, List.length_append, List.length_cons]; have : 1 ≤ (testW t).length := by unfold testW; simp
                        omega
    have := this r.tests
    omega
  have ht : (r.target.map quoteL ++ r.tests.flatMap testW).take r.target.length = r.target.map quoteL := by
    have : r.target.length = (r.target.map quoteL).length := by simp
    rw [this, List.take_left]
  have hd : (r.target.map quoteL ++ r.tests.flatMap testW).drop r.target.length = r.tests.flatMap testW := by
    have : r.target.length = (r.target.map quoteL).length := by simp
    rw [this, List.drop_left]
  unfold ruleR
  rw [words_rule h]
  unfold ruleW
  simp only [List.headD_cons, List.tail_cons, hop, ht, hd]
  rw [testsR_back _ _ hlen h5, namesR_back]
  obtain ⟨op, target, tests, uns⟩ := r
  simp only at h1
  rcases h1 with rfl | rfl <;> cases uns <;> rfl
def ruleStepR (st : List Rul) (line : Bs) : Option (List Rul) :=
  if rulOk (ruleR line) = true ∧ ruleL (ruleR line) = line ∧ st.length < 100 then some (st ++ [ruleR line]) else none
/-- the two ways of reading a line agree -/
theorem ruleStep_eq {atoi : Bs → Option Int} (hA : ∀ n : Int, -99 ≤ n ∧ n ≤ 99 → atoi (numL n) = some n) (st : List Rul) (line : Bs) : ruleStep atoi st line = ruleStepR st line := by
  unfold ruleStep ruleStepR
  by_cases h : rulOk (ruleR line) = true ∧ ruleL (ruleR line) = line
  · obtain ⟨h1, h2⟩ := h
    have := ruleRead_back hA h1
    rw [h2] at this
    rw [this]
  · rw [if_neg (fun e => h ⟨e.1, e.2.1⟩)]
    cases hr : ruleRead atoi line with
    | none => rfl
    | some r =>
      simp only
      rw [if_neg]
      rintro ⟨e1, e2, _⟩
      have := ruleR_back e1
      rw [e2] at this
      exact h (by rw [this]; exact ⟨e1, e2⟩)

/- The plain laws of layer 33: what is written is read back; what is read is written as it stood. No program in sight. -/
set_option linter.unusedVariables false

theorem linesGo_line : ∀ (w r cur : Bs) (p : Nat), 10 ∉ w → linesGo p cur (w ++ 10 :: r) = emit p (cur ++ w) (linesGo (p + (cur ++ w).length + 1) [] r)
  | [], r, cur, p, _ => by rw [List.nil_append, linesGo, if_pos rfl, List.append_nil]
  | c :: w, r, cur, p, h => by
    have hc : c ≠ 10 := fun e => h (by rw [e]; exact List.mem_cons_self)
    rw [List.cons_append, linesGo, if_neg hc, linesGo_line w r _ p (fun e => h (List.mem_cons_of_mem _ e))]
    simp
theorem linesGo_end : ∀ (w cur : Bs) (p : Nat), 10 ∉ w → linesGo p cur w = emit p (cur ++ w) []
  | [], cur, p, _ => by rw [linesGo, List.append_nil]
  | c :: w, cur, p, h => by
    have hc : c ≠ 10 := fun e => h (by rw [e]; exact List.mem_cons_self)
    rw [linesGo, if_neg hc, linesGo_end w _ p (fun e => h (List.mem_cons_of_mem _ e))]
    simp
/-- a line that is not blank -/
def Fine (l : Bs) : Prop := 10 ∉ l ∧ l ≠ [] ∧ l.headD 0 ≠ 35
theorem emit_fine {l : Bs} (h : Fine l) (p : Nat) (r : List (Nat × Bs)) : emit p l r = (p, l) :: r := by
  unfold emit
  rw [if_neg]
  rintro (e | e)
  · exact h.2.1 e
  · exact h.2.2 e
def foldSteps {α : Type} (step : List α → Bs → Option (List α)) : List α → List Bs → Option (List α)
  | st, [] => some st
  | st, l :: r => match step st l with
    | some st' => foldSteps step st' r
    | none => none
theorem foldSteps_app {α : Type} (step : List α → Bs → Option (List α)) : ∀ (a b : List Bs) (st st' : List α), foldSteps step st a = some st' → foldSteps step st (a ++ b) = foldSteps step st' b
  | [], b, st, st', h => by cases h; rfl
  | l :: a, b, st, st', h => by
    show (match step st l with | some x => foldSteps step x (a ++ b) | none => none) = _
    have h' : (match step st l with | some x => foldSteps step x a | none => none) = some st' := h
    cases hs : step st l with
    | none => rw [hs] at h'; cases h'
    | some x => rw [hs] at h'; exact foldSteps_app step a b x st' h'
def endLines (ls : List Bs) : Bs := ls.flatMap (· ++ [10])
theorem readAll_fold {α : Type} (step : List α → Bs → Option (List α)) : ∀ (ls : List Bs) (st st' : List α) (p : Nat), (∀ l ∈ ls, Fine l) → foldSteps step st ls = some st' →
    readAll step st (linesGo p [] (endLines ls)) = (st', 0, 0)
  | [], st, st', p, _, h => by cases h; rfl
  | l :: r, st, st', p, hf, h => by
    have hl := hf l List.mem_cons_self
    have e : endLines (l :: r) = l ++ 10 :: endLines r := by unfold endLines; rw [List.flatMap_cons]; simp
    rw [e, linesGo_line l _ [] p hl.1, List.nil_append, emit_fine hl]
    unfold foldSteps at h
    unfold readAll
    cases hs : step st l with
    | none => rw [hs] at h; cases h
    | some x =>
      rw [hs] at h
      exact readAll_fold step r x st' _ (fun u hu => hf u (List.mem_cons_of_mem _ hu)) h
theorem readText_fold {α : Type} (step : List α → Bs → Option (List α)) (ls : List Bs) (st' : List α) (hf : ∀ l ∈ ls, Fine l) (h : foldSteps step [] ls = some st') (hl : (endLines ls).length ≤ 16384) :
    readText step (endLines ls) = (st', 0, 0) := by
  unfold readText
  rw [if_neg (by omega)]
  exact readAll_fold step ls [] st' 0 hf h
/-! ### cohorts -/
def cohLines (c : Coh) : List Bs := quoteL c.form :: c.reads.map fun r => 9 :: quotedL r
theorem text_lines (l : List Coh) : textL l = endLines (l.flatMap cohLines) := by
  unfold textL endLines
  rw [List.flatMap_assoc]
  congr 1
  funext c
  unfold textC cohLines
  rw [List.flatMap_cons, List.flatMap_map]
  simp
theorem addRead_snoc : ∀ (st : List Coh) (c : Coh) (r : List Bs), addRead (st ++ [c]) r = st ++ [{ c with reads := c.reads ++ [r] }]
  | [], c, r => rfl
  | [d], c, r => rfl
  | d :: e :: t, c, r => by
    show d :: addRead (e :: t ++ [c]) r = _
    rw [addRead_snoc (e :: t) c r]; rfl
theorem lastReads_snoc (st : List Coh) (c : Coh) : lastReads (st ++ [c]) = c.reads.length := by unfold lastReads; simp
theorem tagsOk_ne {l : List Bs} {hi : Nat} (h : tagsOk 1 hi l = true) : l ≠ [] := by
  intro e; rw [e] at h; exact absurd h (by simp [tagsOk])
theorem step_reading (st : List Coh) (f : Bs) (done : List (List Bs)) (r : List Bs) (h : tagsOk 1 20 r = true) (hl : done.length < 30) :
    lineStep (st ++ [⟨f, done⟩]) (9 :: quotedL r) = some (st ++ [⟨f, done ++ [r]⟩]) := by
  unfold lineStep
  rw [if_pos (by rfl)]
  show (match unqAll (wordsL (quotedL r)) with | some ts => _ | none => _) = _
  rw [words_quoted (tagsOk_ne h), unqAll_back]
  simp only
  rw [if_pos ⟨h, by simp, by rw [lastReads_snoc]; exact hl⟩, addRead_snoc]
theorem step_readings (st : List Coh) (f : Bs) : ∀ (rs done : List (List Bs)), (∀ r ∈ rs, tagsOk 1 20 r = true) → done.length + rs.length ≤ 30 →
    foldSteps lineStep (st ++ [⟨f, done⟩]) (rs.map fun r => 9 :: quotedL r) = some (st ++ [⟨f, done ++ rs⟩])
  | [], done, _, _ => by simp [foldSteps]
  | r :: rs, done, h, hl => by
    simp only [List.length_cons] at hl
    rw [List.map_cons]
    unfold foldSteps
    rw [step_reading st f done r (h r List.mem_cons_self) (by omega)]
    simp only
    rw [step_readings st f rs (done ++ [r]) (fun u hu => h u (List.mem_cons_of_mem _ hu)) (by simp; omega)]
    simp
theorem cohOk_parts {c : Coh} (h : cohOk c = true) : tagOk c.form = true ∧ c.reads.length ≤ 30 ∧ ∀ r ∈ c.reads, tagsOk 1 20 r = true := by
  unfold cohOk at h
  simp only [Bool.and_eq_true, decide_eq_true_eq, List.all_eq_true] at h
  exact ⟨h.1.1, h.1.2, h.2⟩
theorem step_cohort (st : List Coh) (c : Coh) (h : cohOk c = true) (hl : st.length < 200) : foldSteps lineStep st (cohLines c) = some (st ++ [c]) := by
  obtain ⟨h1, h2, h3⟩ := cohOk_parts h
  unfold cohLines foldSteps
  have : lineStep st (quoteL c.form) = some (st ++ [⟨c.form, []⟩]) := by
    unfold lineStep
    rw [if_neg (quote_head c.form).2.1, unquote_quote]
    simp only
    rw [if_pos ⟨h1, hl⟩]
  rw [this]
  simp only
  rw [step_readings st c.form c.reads [] h3 (by simpa using h2)]
  rfl
theorem step_cohorts : ∀ (l st : List Coh), (∀ c ∈ l, cohOk c = true) → st.length + l.length ≤ 200 → foldSteps lineStep st (l.flatMap cohLines) = some (st ++ l)
  | [], st, _, _ => by simp [foldSteps]
  | c :: l, st, h, hl => by
    simp only [List.length_cons] at hl
    rw [List.flatMap_cons, foldSteps_app lineStep _ _ _ _ (step_cohort st c (h c List.mem_cons_self) (by omega)), step_cohorts l (st ++ [c]) (fun u hu => h u (List.mem_cons_of_mem _ hu)) (by simp; omega)]
    simp
theorem cohsOk_parts {l : List Coh} (h : cohsOk l = true) : l.length ≤ 200 ∧ ∀ c ∈ l, cohOk c = true := by
  unfold cohsOk at h
  simp only [Bool.and_eq_true, decide_eq_true_eq, List.all_eq_true] at h
  exact h
theorem joinS_noNl : ∀ (l : List Bs), (∀ w ∈ l, 10 ∉ w) → 10 ∉ joinS l
  | [], _ => by simp [joinS]
  | [x], h => h x List.mem_cons_self
  | x :: y :: r, h => by
    have ih := joinS_noNl (y :: r) (fun w hw => h w (List.mem_cons_of_mem _ hw))
    rw [joinS]
    simp only [List.mem_append, List.mem_cons, not_or]
    exact ⟨h x List.mem_cons_self, by decide, ih⟩
theorem quoted_noNl (m : List Bs) : 10 ∉ quotedL m := joinS_noNl _ fun w hw => by
  obtain ⟨n, _, rfl⟩ := List.mem_map.1 hw
  exact (quote_blocks n).noNl
theorem cohLines_fine (c : Coh) : ∀ l ∈ cohLines c, Fine l := by
  intro l hl
  unfold cohLines at hl
  rcases List.mem_cons.1 hl with rfl | hl
  · exact ⟨(quote_blocks _).noNl, quote_ne _, (quote_head _).2.2.1⟩
  · obtain ⟨r, _, rfl⟩ := List.mem_map.1 hl
    refine ⟨?_, by simp, fun e => ?_⟩
    · simp only [List.mem_cons, not_or]
      exact ⟨by decide, quoted_noNl r⟩
    · exact absurd (show (9 : UInt8) = 35 from e) (by decide)
/-- cohorts that are written are read back -/
theorem parse_text {l : List Coh} (h : cohsOk l = true) (hl : (textL l).length ≤ 16384) : parseL (textL l) = (l, 0, 0) := by
  obtain ⟨h1, h2⟩ := cohsOk_parts h
  unfold parseL
  rw [text_lines] at hl ⊢
  refine readText_fold lineStep _ l ?_ ?_ hl
  · intro x hx
    obtain ⟨c, _, hx⟩ := List.mem_flatMap.1 hx
    exact cohLines_fine c x hx
  · have := step_cohorts l [] h2 (by simpa using h1)
    simpa using this
/-! ### rules -/
theorem optL_noNl {b : Bool} {l : Bs} (h : 10 ∉ l) : 10 ∉ optL b l := fun e => h (optL_mem e)
theorem rule_fine {r : Rul} (h : rulOk r = true) : Fine (ruleL r) := by
  obtain ⟨h1, h2, h3, h4, h5⟩ := rulOk_parts h
  refine ⟨?_, ?_, ?_⟩
  · rw [← join_rule h2 (fun t ht => (tstOk_parts (h5 t ht)).2.2.1)]
    apply joinS_noNl
    have hq : ∀ (l : List Bs), ∀ w ∈ l.map quoteL, 10 ∉ w := fun l w hw => by
      obtain ⟨n, _, rfl⟩ := List.mem_map.1 hw
      exact (quote_blocks n).noNl
    intro w hw
    unfold ruleW at hw
    rcases List.mem_cons.1 hw with rfl | hw
    · unfold headL
      simp only [List.mem_append, not_or]
      refine ⟨?_, optL_noNl (by decide)⟩
      split <;> decide
    rcases List.mem_append.1 hw with hw | hw
    · exact hq _ w hw
    · obtain ⟨t, htm, hw⟩ := List.mem_flatMap.1 hw
      unfold testW at hw
      have ht1 := (tstOk_parts (h5 t htm)).1
      have htail : ∀ w ∈ tailW t, 10 ∉ w := by
        intro w hw
        unfold tailW at hw
        rcases List.mem_append.1 hw with hw | hw
        · exact hq _ w hw
        · split at hw
          · cases hw
          · rcases List.mem_cons.1 hw with rfl | hw
            · decide
            · exact hq _ w hw
      rcases List.mem_cons.1 hw with rfl | hw
      · unfold hdrL
        simp only [List.mem_cons, List.mem_append, not_or]
        refine ⟨by decide, ⟨⟨optL_noNl (by decide), ?_⟩, optL_noNl (by decide)⟩, optL_noNl (by decide)⟩
        intro e
        exact absurd ((numL_bytes ht1).1 10 e) (by decide)
      · obtain ⟨a, x, e⟩ := snoc_of (tailW_ne (tstOk_parts (h5 t htm)).2.2.1)
        rw [e, closeLast_append] at hw
        rcases List.mem_append.1 hw with hw | hw
        · exact htail w (by rw [e]; exact List.mem_append_left _ hw)
        · simp only [List.mem_singleton] at hw
          subst hw
          simp only [List.mem_append, List.mem_singleton, not_or]
          exact ⟨htail x (by rw [e]; simp), by decide⟩
  · unfold ruleL; simp
  · intro e
    unfold ruleL headL at e
    split at e
    · exact absurd (show (82 : UInt8) = 35 from e) (by decide)
    · exact absurd (show (83 : UInt8) = 35 from e) (by decide)
theorem rules_lines (l : List Rul) : rulesL l = endLines (l.map ruleL) := by unfold rulesL endLines; rw [List.flatMap_map]
section
variable {atoi : Bs → Option Int} (hA : ∀ n : Int, -99 ≤ n ∧ n ≤ 99 → atoi (numL n) = some n)
include hA
theorem step_rules : ∀ (l st : List Rul), (∀ r ∈ l, rulOk r = true) → st.length + l.length ≤ 100 → foldSteps (ruleStep atoi) st (l.map ruleL) = some (st ++ l)
  | [], st, _, _ => by simp [foldSteps]
  | r :: l, st, h, hl => by
    have hr := h r List.mem_cons_self
    simp only [List.length_cons] at hl
    rw [List.map_cons]
    unfold foldSteps
    have : ruleStep atoi st (ruleL r) = some (st ++ [r]) := by
      unfold ruleStep
      rw [ruleRead_back hA hr]
      simp only
      rw [if_pos ⟨hr, trivial, by omega⟩]
    rw [this]
    simp only
    rw [step_rules l (st ++ [r]) (fun u hu => h u (List.mem_cons_of_mem _ hu)) (by simp; omega)]
    simp
/-- rules that are written are read back -/
theorem rules_text {l : List Rul} (h : ∀ r ∈ l, rulOk r = true) (h1 : l.length ≤ 100) (hl : (rulesL l).length ≤ 16384) : rulesRead atoi (rulesL l) = (l, 0, 0) := by
  unfold rulesRead
  rw [rules_lines] at hl ⊢
  refine readText_fold _ _ l ?_ ?_ hl
  · intro x hx
    obtain ⟨r, hr, rfl⟩ := List.mem_map.1 hx
    exact rule_fine (h r hr)
  · have := step_rules hA l [] h (by simpa using h1)
    simpa using this
end
/-! ### what is read is written as it stood -/
def bareOf (l : List (Nat × Bs)) : Bs := l.flatMap fun x => x.2 ++ [10]
def bareL (s : Bs) : Bs := bareOf (linesL s)
theorem textL_snoc (st : List Coh) (c : Coh) : textL (st ++ [c]) = textL st ++ textC c := by unfold textL; rw [List.flatMap_append]; simp
theorem lineStep_text {st st' : List Coh} {line : Bs} (h : lineStep st line = some st') : textL st' = textL st ++ (line ++ [10]) ∧ (cohsOk st = true → cohsOk st' = true) := by
  unfold lineStep at h
  split at h
  · rename_i h9
    split at h
    · rename_i ts hu
      split at h
      · rename_i hc
        obtain ⟨h1, h2, h3⟩ := hc
        cases h
        obtain ⟨a, c, rfl⟩ := snoc_of h2
        rw [lastReads_snoc] at h3
        rw [addRead_snoc]
        have hq := quoted_words hu
        have hl : line = 9 :: line.tail := by
          cases line with
          | nil => exact absurd h9 (by decide)
          | cons x r => simp only [List.headD_cons] at h9; rw [h9]; rfl
        refine ⟨?_, fun hk => ?_⟩
        · rw [textL_snoc, textL_snoc, List.append_assoc]
          congr 1
          unfold textC
          rw [List.flatMap_append]
          simp only [List.flatMap_cons, List.flatMap_nil, List.append_nil, hq]
          rw [hl]; simp
        · obtain ⟨k1, k2⟩ := cohsOk_parts hk
          have k3 := cohOk_parts (k2 c (by simp))
          unfold cohsOk
          simp only [Bool.and_eq_true, decide_eq_true_eq, List.all_eq_true]
          refine ⟨by simpa using k1, fun d hd => ?_⟩
          rcases List.mem_append.1 hd with hd | hd
          · exact k2 d (List.mem_append_left _ hd)
          · simp only [List.mem_singleton] at hd
            subst hd
            unfold cohOk
            simp only [Bool.and_eq_true, decide_eq_true_eq, List.all_eq_true]
            refine ⟨⟨k3.1, by simp; omega⟩, fun r hr => ?_⟩
            rcases List.mem_append.1 hr with hr | hr
            · exact k3.2.2 r hr
            · simp only [List.mem_singleton] at hr
              subst hr
              exact h1
      · cases h
    · cases h
  · split at h
    · rename_i f hu
      split at h
      · rename_i hc
        cases h
        refine ⟨?_, fun hk => ?_⟩
        · rw [textL_snoc]
          unfold textC
          rw [unquote_some hu]; simp
        · obtain ⟨k1, k2⟩ := cohsOk_parts hk
          unfold cohsOk
          simp only [Bool.and_eq_true, decide_eq_true_eq, List.all_eq_true]
          refine ⟨by simp; omega, fun d hd => ?_⟩
          rcases List.mem_append.1 hd with hd | hd
          · exact k2 d hd
          · simp only [List.mem_singleton] at hd
            subst hd
            unfold cohOk
            simp [hc.1]
      · cases h
    · cases h
theorem readAll_inv {α : Type} {step : List α → Bs → Option (List α)} {T : List α → Bs} {K : List α → Prop} (hs : ∀ st st' line, step st line = some st' → T st' = T st ++ (line ++ [10]) ∧ (K st → K st')) :
    ∀ (ls : List (Nat × Bs)) (st l : List α) (p : Nat), readAll step st ls = (l, p, 0) → T l = T st ++ bareOf ls ∧ (K st → K l)
  | [], st, l, p, h => by
    unfold readAll at h
    obtain ⟨rfl, _⟩ := Prod.mk.inj h
    exact ⟨by simp [bareOf], id⟩
  | (q, line) :: r, st, l, p, h => by
    unfold readAll at h
    cases hx : step st line with
    | none => rw [hx] at h; simp at h
    | some st' =>
      rw [hx] at h
      obtain ⟨h1, h2⟩ := hs _ _ _ hx
      obtain ⟨h3, h4⟩ := readAll_inv hs r st' l p h
      refine ⟨?_, fun hk => h4 (h2 hk)⟩
      rw [h3, h1]
      unfold bareOf
      rw [List.flatMap_cons]; simp
theorem linesGo_len : ∀ (s cur : Bs) (p : Nat), (bareOf (linesGo p cur s)).length ≤ cur.length + s.length + 1
  | [], cur, p => by
    unfold linesGo emit
    split
    · simp [bareOf]
    · simp [bareOf]
  | c :: r, cur, p => by
    unfold linesGo
    split
    · have ih := linesGo_len r [] (p + cur.length + 1)
      unfold emit
      split
      · simp only [List.length_nil, List.length_cons] at ih ⊢; omega
      · unfold bareOf at ih ⊢
        rw [List.flatMap_cons]
        simp only [List.length_append, List.length_nil, List.length_cons] at ih ⊢; omega
    · have ih := linesGo_len r (cur ++ [c]) p
      simp only [List.length_append, List.length_nil, List.length_cons] at ih ⊢; omega
theorem bare_len (s : Bs) : (bareL s).length ≤ s.length + 1 := by
  have := linesGo_len s [] 0
  unfold bareL linesL
  simpa using this
/-- Text of what Parse returns -/
theorem parse_back {s : Bs} {l : List Coh} {p : Nat} (hs : s.length ≤ 16000) (h : parseL s = (l, p, 0)) : cohsText l = (bareL s, 0) := by
  unfold parseL readText at h
  rw [if_neg (by omega)] at h
  obtain ⟨h1, h2⟩ := readAll_inv (T := textL) (K := fun l => cohsOk l = true) (fun _ _ _ => lineStep_text) _ _ _ _ h
  have h3 : textL l = bareL s := h1
  have h4 := bare_len s
  unfold cohsText
  rw [if_pos (h2 rfl), h3, if_neg (by omega)]
theorem ruleStep_text {atoi : Bs → Option Int} {st st' : List Rul} {line : Bs} (h : ruleStep atoi st line = some st') : rulesL st' = rulesL st ++ (line ++ [10]) ∧ (st.length ≤ 100 ∧ st.all rulOk = true → st'.length ≤ 100 ∧ st'.all rulOk = true) := by
  unfold ruleStep at h
  split at h
  · rename_i r hr
    split at h
    · rename_i hc
      obtain ⟨h1, h2, h3⟩ := hc
      cases h
      refine ⟨?_, fun hk => ?_⟩
      · unfold rulesL; rw [List.flatMap_append]; simp [h2]
      · rw [List.all_eq_true] at hk ⊢
        refine ⟨by simp; omega, fun x hx => ?_⟩
        rcases List.mem_append.1 hx with hx | hx
        · exact hk.2 x hx
        · simp only [List.mem_singleton] at hx
          subst hx; exact h1
    · cases h
  · cases h
/-- RuleText of what Rules returns -/
theorem rules_back {atoi : Bs → Option Int} {s : Bs} {l : List Rul} {p : Nat} (hs : s.length ≤ 16000) (h : rulesRead atoi s = (l, p, 0)) : rulesText l = (bareL s, 0) := by
  unfold rulesRead readText at h
  rw [if_neg (by omega)] at h
  obtain ⟨h1, h2⟩ := readAll_inv (T := rulesL) (K := fun l => l.length ≤ 100 ∧ l.all rulOk = true) (fun _ _ _ => ruleStep_text) _ _ _ _ h
  have h3 : rulesL l = bareL s := h1
  have h4 := bare_len s
  unfold rulesText
  rw [if_pos (h2 ⟨by simp, rfl⟩), h3, if_neg (by omega)]
end Go.Proofs.YtplipnchkkhdaaaGreatDoor
