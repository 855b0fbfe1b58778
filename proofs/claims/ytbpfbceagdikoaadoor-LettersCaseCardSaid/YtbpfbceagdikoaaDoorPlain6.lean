/- Changing the case twice; the pieces of a changed string. No program in sight. -/
import Derived.Test.YtbpfbceagdikoaaDoorPlain4
namespace Go.Proofs.YtbpfbceagdikoaaDoor
set_option linter.unusedVariables false

theorem cls_far (r : Int) (h : 256 ≤ r) : clsOf r = 6 := by
  unfold clsOf spans
  simp only [scan]
  repeat rw [if_neg (by omega)]
theorem low_far (r : Int) (h : 256 ≤ r) : lowR r = r := by
  unfold lowR; rw [cls_far r h, if_neg (by unfold lowRC; omega)]
theorem up_far (r : Int) (h : 256 ≤ r) : upR r = r := by
  unfold upR; rw [cls_far r h, if_neg (by unfold upRC; omega)]
/-- what the two changes do, up to 255 -/
def goodG (g : Int → Int) (n : Nat) : Bool :=
  let u := (Utf8.encode (g n)).data.toList
  validL u && decide (((point u 0).1 : Int) = g n) && decide (u.length = (Utf8.encode (n : Int)).size)
set_option maxRecDepth 100000 in
theorem low_near : ∀ n : Nat, n < 256 → goodG lowR n = true := by decide +kernel
set_option maxRecDepth 100000 in
theorem up_near : ∀ n : Nat, n < 256 → goodG upR n = true := by decide +kernel
set_option maxRecDepth 100000 in
theorem case_near : ∀ n : Nat, n < 256 → lowR (upR n) = lowR n ∧ upR (lowR n) = upR n ∧ (clsOf n = 1 ∨ clsOf n = 2 → clsOf (lowR n) = 1 ∧ (clsOf (upR n) = 1 ∨ clsOf (upR n) = 2)) ∧ (¬ (clsOf n = 1 ∨ clsOf n = 2) → lowR n = n ∧ upR n = n) := by decide +kernel

/-- a change that keeps the size of each letter -/
def GoodC (g : Int → Int) : Prop := (∀ n : Nat, n < 256 → goodG g n = true) ∧ ∀ r, 256 ≤ r → g r = r
theorem good_low : GoodC lowR := ⟨low_near, low_far⟩
theorem good_up : GoodC upR := ⟨up_near, up_far⟩

theorem changeP_of (g : Int → Int) {t : Bs} (h : validL t = true) : changeP g t = (Utf8.encode (g (point t 0).1)).data.toList := by unfold changeP; rw [if_pos h]
theorem changeP_valid {g : Int → Int} (hg : GoodC g) {t : Bs} (h : validL t = true) :
    validL (changeP g t) = true ∧ ((point (changeP g t) 0).1 : Int) = g (point t 0).1 ∧ (changeP g t).length = t.length := by
  have e := changeP_of g h
  have ev := encode_valid h
  rw [e]
  rcases Nat.lt_or_ge (point t 0).1 256 with hn | hn
  · have := hg.1 _ hn
    unfold goodG at this
    simp only [Bool.and_eq_true, decide_eq_true_eq] at this
    refine ⟨this.1.1, this.1.2, ?_⟩
    rw [this.2, Lib.size_eq, ev]
  · rw [hg.2 _ (by omega), ev]
    exact ⟨h, rfl, rfl⟩
theorem changeP_stray (g : Int → Int) {t : Bs} (h : validL t = false) : changeP g t = t := by
  unfold changeP; rw [h]; simp
theorem changeP_valid_eq {g : Int → Int} (hg : GoodC g) (t : Bs) : validL (changeP g t) = validL t := by
  cases h : validL t with
  | true => exact (changeP_valid hg h).1
  | false => rw [changeP_stray g h, h]
theorem changeP_length {g : Int → Int} (hg : GoodC g) (t : Bs) : (changeP g t).length = t.length := by
  cases h : validL t with
  | true => exact (changeP_valid hg h).2.2
  | false => rw [changeP_stray g h]
theorem changeL_nil (g : Int → Int) : changeL g [] = [] := rfl
theorem changeL_step (g : Int → Int) {l : Bs} (h : l ≠ []) : changeL g l = changeP g (l.take (psz l)) ++ changeL g (l.drop (psz l)) := by
  unfold changeL; rw [pieces_step l h, List.flatMap_cons]
/-- a letter does not begin with a continuation byte -/
theorem valid_head {t : Bs} (h : validL t = true) : cont t 0 ≠ true := by
  intro hc
  have hne := valid_ne h
  have hp : 0 < (point t 0).2 := of_decide_eq_true (valid_ok h).1
  rw [cont_iff] at hc
  rcases point_cases t _ _ _ _ _ rfl (List.length_pos_iff.2 hne) rfl rfl rfl rfl with ⟨c1, hP⟩ | ⟨c1, c2, c3, c4, hP⟩ | ⟨c1, c2, c3, c4, c5, c6, hP⟩ | ⟨c1, c2, c3, c4, c5, c6, c7, hP⟩ | ⟨c1, c2, c3, c4, hP⟩
  · omega
  · omega
  · omega
  · omega
  · rw [hP] at hp; simp at hp
theorem stray_one {l : Bs} (hne : l ≠ []) (hk : okL l = false) : psz l = 1 := by
  unfold psz; unfold okL at hk
  have : ¬ 0 < (point l 0).2 := of_decide_eq_false hk
  omega
/-- continuation bytes at the beginning of a changed string stood there before -/
theorem keep_cont {g : Int → Int} (hg : GoodC g) (l : Bs) : ∀ j, (∀ k, k < j → cont (changeL g l) k = true) → ∀ k, k < j → atB (changeL g l) k = atB l k := by
  induction l using pieces_ind with
  | h0 => intro j _ k _; rfl
  | h1 l hne ih =>
    intro j hj k hk
    have h0 := hj 0 (by omega)
    cases hk' : okL l with
    | true =>
      exfalso
      have hv : validL (l.take (psz l)) = true := by rw [(piece_first l hne).1, hk']
      have hv' := (changeP_valid hg hv).1
      apply valid_head hv'
      rw [changeL_step g hne] at h0
      rw [cont_iff] at h0 ⊢
      rwa [atB_app (List.length_pos_iff.2 (valid_ne hv'))] at h0
    | false =>
      have hz := stray_one hne hk'
      obtain ⟨c, r, rfl⟩ : ∃ c r, l = c :: r := by
        cases l with
        | nil => exact absurd rfl hne
        | cons c r => exact ⟨c, r, rfl⟩
      have e : changeL g (c :: r) = c :: changeL g r := by
        rw [changeL_step g hne, hz]
        have hv : validL ([c] : Bs) = false := by have := (piece_first (c :: r) hne).1; rw [hz, hk'] at this; exact this
        show changeP g [c] ++ _ = _
        rw [changeP_stray g hv]; rfl
      rw [hz] at ih
      have ih' : ∀ j, (∀ k, k < j → cont (changeL g r) k = true) → ∀ k, k < j → atB (changeL g r) k = atB r k := ih
      have sh : ∀ (x : Bs) k, atB (c :: x) (k + 1) = atB x k := fun x k => by unfold atB; rw [List.getElem?_cons_succ]
      have shc : ∀ (x : Bs) k, cont (c :: x) (k + 1) = true ↔ cont x k = true := fun x k => by rw [cont_iff, cont_iff, sh]
      rw [e]
      cases k with
      | zero => rfl
      | succ k =>
        rw [sh, sh]
        exact ih' (j - 1) (fun i hi => by have := hj (i + 1) (by omega); rwa [e, shc] at this) k (by omega)
theorem keep_stray {g : Int → Int} (hg : GoodC g) (c : UInt8) (r : Bs) (h : okL (c :: r) = false) : okL (c :: changeL g r) = false := by
  cases hk : okL (c :: changeL g r) with
  | false => rfl
  | true =>
    exfalso
    have hp : 0 < (point (c :: changeL g r) 0).2 := of_decide_eq_true hk
    have hle := (point_le (c :: changeL g r)).1
    have sh : ∀ (x : Bs) k, atB (c :: x) (k + 1) = atB x k := fun x k => by unfold atB; rw [List.getElem?_cons_succ]
    have shc : ∀ (x : Bs) k, cont (c :: x) (k + 1) = true ↔ cont x k = true := fun x k => by rw [cont_iff, cont_iff, sh]
    have hkc := keep_cont hg r ((point (c :: changeL g r) 0).2 - 1) (fun k hk2 => by
      have := point_cont (c :: changeL g r) (k + 1) (by omega) (by omega)
      rwa [shc] at this)
    have hlen : (point (c :: changeL g r) 0).2 ≤ (c :: r).length := by
      rcases Nat.lt_or_ge 1 (point (c :: changeL g r) 0).2 with h1 | h1
      · have e := hkc ((point (c :: changeL g r) 0).2 - 2) (by omega)
        have hc := point_cont (c :: changeL g r) ((point (c :: changeL g r) 0).2 - 1) (by omega) (by omega)
        have h2 : (point (c :: changeL g r) 0).2 - 1 = ((point (c :: changeL g r) 0).2 - 2) + 1 := by omega
        rw [h2, shc, cont_iff, e, ← cont_iff] at hc
        have := cont_lt hc
        rw [List.length_cons]; omega
      · rw [List.length_cons]; omega
    have := point_pre (c :: r) (c :: changeL g r) (fun k hk2 => by
      cases k with
      | zero => rfl
      | succ k => rw [sh, sh]; exact (hkc k (by omega)).symm) hlen hp hle
    unfold okL at h
    rw [this] at h
    exact absurd hp (of_decide_eq_false h)
theorem changeL_pieces {g : Int → Int} (hg : GoodC g) (l : Bs) : pieces (changeL g l) = (pieces l).map (changeP g) := by
  induction l using pieces_ind with
  | h0 => rfl
  | h1 l hne ih =>
    rw [pieces_step l hne, List.map_cons, ← ih, changeL_step g hne]
    cases hk : okL l with
    | true =>
      have hv : validL (l.take (psz l)) = true := by rw [(piece_first l hne).1, hk]
      exact pieces_app _ (changeP_valid hg hv).1
    | false =>
      have hz := stray_one hne hk
      obtain ⟨c, r, rfl⟩ : ∃ c r, l = c :: r := by
        cases l with
        | nil => exact absurd rfl hne
        | cons c r => exact ⟨c, r, rfl⟩
      have hv : validL ([c] : Bs) = false := by have := (piece_first (c :: r) hne).1; rw [hz, hk] at this; exact this
      rw [hz]
      show pieces (changeP g [c] ++ changeL g r) = changeP g [c] :: pieces (changeL g r)
      rw [changeP_stray g hv]
      have hs := keep_stray hg c r hk
      show pieces (c :: changeL g r) = _
      rw [pieces_step _ (by simp), stray_one (by simp) hs]; rfl
theorem changeL_length {g : Int → Int} (hg : GoodC g) (l : Bs) : (changeL g l).length = l.length := by
  induction l using pieces_ind with
  | h0 => rfl
  | h1 l hne ih =>
    rw [changeL_step g hne, List.length_append, changeP_length hg, ih, ← List.length_append, List.take_append_drop]
theorem change_twice {g k : Int → Int} (hg : GoodC g) (hk : ∀ n : Nat, k (g n) = k n) (l : Bs) : changeL k (changeL g l) = changeL k l := by
  have e : changeL k (changeL g l) = (pieces (changeL g l)).flatMap (changeP k) := rfl
  rw [e, changeL_pieces hg]
  have key : ∀ ps : List Bs, (ps.map (changeP g)).flatMap (changeP k) = ps.flatMap (changeP k) := by
    intro ps
    induction ps with
    | nil => rfl
    | cons t r ih =>
      rw [List.map_cons, List.flatMap_cons, List.flatMap_cons, ih]
      congr 1
      cases h : validL t with
      | true =>
        obtain ⟨h1, h2, _⟩ := changeP_valid hg h
        rw [changeP_of k h1, changeP_of k h, h2, hk]
      | false => rw [changeP_stray g h]
  exact key _
theorem low_up (n : Nat) : lowR (upR n) = lowR n := by
  rcases Nat.lt_or_ge n 256 with h | h
  · exact (case_near n h).1
  · rw [up_far n (by omega)]
theorem up_low (n : Nat) : upR (lowR n) = upR n := by
  rcases Nat.lt_or_ge n 256 with h | h
  · exact (case_near n h).2.1
  · rw [low_far n (by omega)]
theorem stray_map {g : Int → Int} (hg : GoodC g) : ∀ (ps : List Bs) (i : Nat), strayAt (ps.map (changeP g)) i = strayAt ps i
  | [], i => rfl
  | t :: r, i => by
    rw [List.map_cons]
    simp only [strayAt]
    rw [changeP_valid_eq hg, changeP_length hg, stray_map hg r]
theorem split_change {g : Int → Int} (hg : GoodC g) (l : Bs) : splitL (changeL g l) = (splitL l).map (changeP g) ∧ splitE (changeL g l) = splitE l ∧ splitAt (changeL g l) = splitAt l := by
  have e : splitR (changeL g l) = ((splitR l).1.map (changeP g), (splitR l).2.1, (splitR l).2.2) := by
    unfold splitR
    rw [changeL_length hg, changeL_pieces hg, stray_map hg]
    by_cases h : 16384 < l.length
    · rw [if_pos h, if_pos h]; rfl
    · rw [if_neg h, if_neg h]
      cases strayAt (pieces l) 0 <;> rfl
  unfold splitL splitE splitAt
  rw [e]; exact ⟨rfl, rfl, rfl⟩
theorem stray_valid : ∀ (ps : List Bs) (i : Nat), strayAt ps i = none → ∀ p ∈ ps, validL p = true
  | [], _, _ => fun p hp => by cases hp
  | t :: r, i, h => by
    simp only [strayAt] at h
    by_cases hv : validL t = true
    · rw [if_pos hv] at h
      intro p hp
      rcases List.mem_cons.1 hp with rfl | hp
      · exact hv
      · exact stray_valid r _ h p hp
    · rw [if_neg hv] at h; cases h
theorem split_valid (l : Bs) : ∀ p ∈ splitL l, validL p = true := by
  intro p hp
  unfold splitL splitR at hp
  split at hp
  · cases hp
  · split at hp
    · cases hp
    · rename_i h; exact stray_valid _ _ h p hp
/-- the classes of a letter and of its changed forms -/
theorem case_piece {t : Bs} (h : validL t = true) :
    (classL t = 1 ∨ classL t = 2 → classL (changeP lowR t) = 1 ∧ (classL (changeP upR t) = 1 ∨ classL (changeP upR t) = 2)) ∧ (¬ (classL t = 1 ∨ classL t = 2) → changeP lowR t = t ∧ changeP upR t = t) := by
  have cl : ∀ {u : Bs}, validL u = true → classL u = clsOf (point u 0).1 := fun hu => by unfold classL; rw [if_pos hu]
  obtain ⟨a1, a2, _⟩ := changeP_valid good_low h
  obtain ⟨b1, b2, _⟩ := changeP_valid good_up h
  rw [cl h, cl a1, cl b1, a2, b2]
  have ev := encode_valid h
  have el := changeP_of lowR h
  have eu := changeP_of upR h
  rw [el, eu]
  rcases Nat.lt_or_ge (point t 0).1 256 with hn | hn
  · obtain ⟨_, _, c3, c4⟩ := case_near _ hn
    refine ⟨c3, fun hh => ?_⟩
    obtain ⟨d1, d2⟩ := c4 hh
    rw [d1, d2, ev]; exact ⟨rfl, rfl⟩
  · rw [low_far _ (by omega), up_far _ (by omega), cls_far _ (by omega), ev]
    exact ⟨fun hh => by omega, fun _ => ⟨rfl, rfl⟩⟩
end Go.Proofs.YtbpfbceagdikoaaDoor
