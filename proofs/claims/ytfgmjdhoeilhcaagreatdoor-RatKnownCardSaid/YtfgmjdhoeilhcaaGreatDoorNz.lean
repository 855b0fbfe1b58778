/- Natural numbers in a base, as lists of digits, the lowest first; decimal texts. No program in sight. -/
import Derived.ProofKit
namespace Go.Proofs.YtfgmjdhoeilhcaaGreatDoor
set_option linter.unusedVariables false

abbrev Bs := List UInt8

/-! ### lists of digits -/
def valL (b : Nat) : List Nat → Nat
  | [] => 0
  | x :: r => x + b * valL b r
theorem valL_append (b : Nat) (l m : List Nat) : valL b (l ++ m) = valL b l + b ^ l.length * valL b m := by
  induction l with
  | nil => simp [valL]
  | cons x r ih =>
    rw [List.cons_append]
    simp only [valL, List.length_cons]
    rw [ih, Nat.mul_add, Nat.pow_succ, ← Nat.mul_assoc, Nat.mul_comm b (b ^ r.length), Nat.add_assoc]
theorem valL_snoc (b : Nat) (l : List Nat) (x : Nat) : valL b (l ++ [x]) = valL b l + b ^ l.length * x := by
  rw [valL_append]; simp [valL]
theorem valL_lt {b : Nat} {l : List Nat} (h : ∀ x ∈ l, x < b) : valL b l < b ^ l.length := by
  induction l with
  | nil => simp [valL]
  | cons x r ih =>
    have hx := h x List.mem_cons_self
    have hr := ih fun y hy => h y (List.mem_cons_of_mem _ hy)
    simp only [valL, List.length_cons, Nat.pow_succ]
    have : b * valL b r + b ≤ b * b ^ r.length := by
      rw [← Nat.mul_succ]; exact Nat.mul_le_mul_left b hr
    rw [Nat.mul_comm (b ^ r.length) b]
    omega
/-- no zero at the end -/
def Canon (l : List Nat) : Prop := ∀ x, l.getLast? = some x → x ≠ 0
theorem Canon.nil : Canon [] := fun x h => by simp at h
theorem Canon.tail {x : Nat} {r : List Nat} (h : Canon (x :: r)) : Canon r := by
  intro y hy
  cases r with
  | nil => simp at hy
  | cons a r => exact h y (by rw [List.getLast?_cons_cons]; exact hy)
theorem valL_pos {b : Nat} (hb : 0 < b) {l : List Nat} (hc : Canon l) (hne : l ≠ []) : 0 < valL b l := by
  induction l with
  | nil => exact absurd rfl hne
  | cons x r ih =>
    simp only [valL]
    cases r with
    | nil =>
      have := hc x (by simp)
      omega
    | cons a r =>
      have := ih hc.tail (by simp)
      have : 0 < b * valL b (a :: r) := Nat.mul_pos hb this
      omega
/-- the digits of a number -/
def digF (b : Nat) : Nat → Nat → List Nat
  | 0, _ => []
  | k + 1, n => if n = 0 then [] else n % b :: digF b k (n / b)
def digL (b n : Nat) : List Nat := digF b n n
theorem digF_enough {b : Nat} (hb : 2 ≤ b) : ∀ (k n : Nat), n ≤ k → digF b k n = digF b n n
  | 0, n, h => by obtain rfl : n = 0 := by omega
                  rfl
  | k + 1, 0, h => rfl
  | k + 1, n + 1, h => by
    have hd : (n + 1) / b ≤ n := by
      have := Nat.div_lt_self (n := n + 1) (k := b) (by omega) (by omega)
      omega
    show (if n + 1 = 0 then [] else (n + 1) % b :: digF b k ((n + 1) / b)) = (if n + 1 = 0 then [] else (n + 1) % b :: digF b n ((n + 1) / b))
    rw [digF_enough hb k _ (by omega), digF_enough hb n _ hd]
theorem digL_zero (b : Nat) : digL b 0 = [] := rfl
theorem digL_step {b n : Nat} (hb : 2 ≤ b) (hn : n ≠ 0) : digL b n = n % b :: digL b (n / b) := by
  obtain ⟨m, rfl⟩ : ∃ m, n = m + 1 := ⟨n - 1, by omega⟩
  have hd : (m + 1) / b ≤ m := by
    have := Nat.div_lt_self (n := m + 1) (k := b) (by omega) (by omega)
    omega
  show (if m + 1 = 0 then [] else (m + 1) % b :: digF b m ((m + 1) / b)) = _
  rw [if_neg hn, digF_enough hb m _ hd]; rfl
theorem digL_ind {P : Nat → Prop} {b : Nat} (hb : 2 ≤ b) (h0 : P 0) (h1 : ∀ n, n ≠ 0 → P (n / b) → P n) (n : Nat) : P n := by
  induction n using Nat.strongRecOn with
  | ind n ih =>
    by_cases hn : n = 0
    · rw [hn]; exact h0
    · exact h1 n hn (ih _ (Nat.div_lt_self (by omega) (by omega)))
theorem valL_digL {b : Nat} (hb : 2 ≤ b) (n : Nat) : valL b (digL b n) = n := by
  induction n using digL_ind hb with
  | h0 => rfl
  | h1 n hn ih => rw [digL_step hb hn]; simp only [valL]; rw [ih]; exact Nat.mod_add_div n b
theorem digL_lt {b : Nat} (hb : 2 ≤ b) (n : Nat) : ∀ x ∈ digL b n, x < b := by
  induction n using digL_ind hb with
  | h0 => intro x hx; cases hx
  | h1 n hn ih =>
    intro x hx
    rw [digL_step hb hn] at hx
    rcases List.mem_cons.1 hx with rfl | hx
    · exact Nat.mod_lt _ (by omega)
    · exact ih x hx
theorem digL_valL {b : Nat} (hb : 2 ≤ b) {l : List Nat} (h : ∀ x ∈ l, x < b) (hc : Canon l) : digL b (valL b l) = l := by
  induction l with
  | nil => rfl
  | cons x r ih =>
    have hx := h x List.mem_cons_self
    have hp := valL_pos (b := b) (by omega) hc (by simp)
    rw [digL_step hb (by omega)]
    simp only [valL]
    rw [Nat.add_mul_mod_self_left, Nat.mod_eq_of_lt hx, Nat.add_mul_div_left _ _ (by omega), Nat.div_eq_of_lt hx, Nat.zero_add, ih (fun y hy => h y (List.mem_cons_of_mem _ hy)) hc.tail]
theorem digL_canon {b : Nat} (hb : 2 ≤ b) (n : Nat) : Canon (digL b n) := by
  induction n using digL_ind hb with
  | h0 => exact Canon.nil
  | h1 n hn ih =>
    rw [digL_step hb hn]
    intro y hy
    by_cases hq : n / b = 0
    · rw [hq, digL_zero] at hy
      simp at hy
      have := Nat.mod_add_div n b
      rw [hq] at this
      omega
    · rw [digL_step hb hq, List.getLast?_cons_cons, ← digL_step hb hq] at hy
      exact ih y hy
/-- without the zeros at the end -/
def trimL : List Nat → List Nat
  | [] => []
  | x :: r => if trimL r = [] ∧ x = 0 then [] else x :: trimL r
theorem trimL_val (b : Nat) : ∀ l : List Nat, valL b (trimL l) = valL b l
  | [] => rfl
  | x :: r => by
    have ih := trimL_val b r
    unfold trimL
    by_cases h : trimL r = [] ∧ x = 0
    · rw [if_pos h]
      rw [h.1] at ih
      simp only [valL] at ih ⊢
      rw [← ih, h.2]; simp
    · rw [if_neg h]; simp only [valL]; rw [ih]
theorem trimL_mem {l : List Nat} {P : Nat → Prop} (h : ∀ x ∈ l, P x) : ∀ x ∈ trimL l, P x := by
  induction l with
  | nil => exact h
  | cons a r ih =>
    intro x hx
    unfold trimL at hx
    split at hx
    · cases hx
    · rcases List.mem_cons.1 hx with rfl | hx
      · exact h _ List.mem_cons_self
      · exact ih (fun y hy => h y (List.mem_cons_of_mem _ hy)) x hx
theorem trimL_canon : ∀ l : List Nat, Canon (trimL l)
  | [] => Canon.nil
  | x :: r => by
    have ih := trimL_canon r
    unfold trimL
    by_cases h : trimL r = [] ∧ x = 0
    · rw [if_pos h]; exact Canon.nil
    · rw [if_neg h]
      intro y hy
      cases ht : trimL r with
      | nil =>
        rw [ht] at hy h
        simp at hy
        subst hy
        exact fun e => h ⟨rfl, e⟩
      | cons a m =>
        rw [ht, List.getLast?_cons_cons] at hy
        exact ih y (by rw [ht]; exact hy)
theorem trimL_eq {b : Nat} (hb : 2 ≤ b) {l : List Nat} (h : ∀ x ∈ l, x < b) : trimL l = digL b (valL b l) := by
  rw [← trimL_val b l, digL_valL hb (trimL_mem h) (trimL_canon l)]
theorem trimL_snoc0 : ∀ l : List Nat, trimL (l ++ [0]) = trimL l
  | [] => by simp [trimL]
  | x :: r => by
    rw [List.cons_append]
    unfold trimL
    rw [trimL_snoc0 r]
theorem trimL_snoc {l : List Nat} {x : Nat} (h : x ≠ 0) : trimL (l ++ [x]) = l ++ [x] := by
  induction l with
  | nil => simp [trimL, h]
  | cons a r ih =>
    rw [List.cons_append]
    unfold trimL
    rw [ih, if_neg (by simp)]
theorem valL_lt_of_top {b : Nat} {l m : List Nat} (hlen : l.length = m.length) (hl : ∀ x ∈ l, x < b) {j : Nat} (hj : j < l.length) (hd : l.drop (j + 1) = m.drop (j + 1)) (hlt : l[j] < m[j]'(by omega)) : valL b l < valL b m := by
  have e1 : l = l.take j ++ l[j] :: l.drop (j + 1) := by rw [← List.drop_eq_getElem_cons hj, List.take_append_drop]
  have e2 : m = m.take j ++ m[j]'(by omega) :: m.drop (j + 1) := by rw [← List.drop_eq_getElem_cons (by omega), List.take_append_drop]
  rw [e1, e2, valL_append, valL_append]
  simp only [valL]
  have h1 : (l.take j).length = j := by rw [List.length_take]; omega
  have h2 : (m.take j).length = j := by rw [List.length_take]; omega
  have h3 := valL_lt (b := b) (l := l.take j) fun x hx => hl x (List.mem_of_mem_take hx)
  rw [h1] at h3
  rw [h1, h2, ← hd]
  generalize valL b (l.drop (j + 1)) = D
  have : b ^ j * (l[j] + b * D) + b ^ j ≤ b ^ j * (m[j]'(by omega) + b * D) := by
    rw [← Nat.mul_succ]
    exact Nat.mul_le_mul_left _ (by omega)
  omega
theorem valL_lt_of_len {b : Nat} (hb : 2 ≤ b) {l m : List Nat} (hl : ∀ x ∈ l, x < b) (hm : Canon m) (hlen : l.length < m.length) : valL b l < valL b m := by
  have h1 := valL_lt hl
  have hne : m ≠ [] := by intro e; rw [e] at hlen; simp at hlen
  have e : m = m.dropLast ++ [m.getLast hne] := (List.dropLast_concat_getLast hne).symm
  have hz : m.getLast hne ≠ 0 := hm _ (List.getLast?_eq_some_getLast hne)
  rw [e, valL_snoc]
  have h2 : m.dropLast.length = m.length - 1 := by simp
  rw [h2]
  have h3 : b ^ l.length ≤ b ^ (m.length - 1) := Nat.pow_le_pow_right (by omega) (by omega)
  have h4 : b ^ (m.length - 1) * 1 ≤ b ^ (m.length - 1) * m.getLast hne := Nat.mul_le_mul_left _ (by omega)
  omega
theorem digL_length {b : Nat} (hb : 2 ≤ b) (n k : Nat) : (digL b n).length ≤ k ↔ n < b ^ k := by
  constructor
  · intro h
    have h1 := valL_lt (digL_lt hb n)
    rw [valL_digL hb] at h1
    exact Nat.lt_of_lt_of_le h1 (Nat.pow_le_pow_right (by omega) h)
  · intro h
    rcases Nat.lt_or_ge k (digL b n).length with hk | hk
    · exfalso
      have hne : digL b n ≠ [] := by intro e; rw [e] at hk; simp at hk
      have e : digL b n = (digL b n).dropLast ++ [(digL b n).getLast hne] := (List.dropLast_concat_getLast hne).symm
      have hz : (digL b n).getLast hne ≠ 0 := digL_canon hb n _ (List.getLast?_eq_some_getLast hne)
      have hv := valL_digL hb n
      rw [e, valL_snoc] at hv
      have h2 : (digL b n).dropLast.length = (digL b n).length - 1 := by simp
      rw [h2] at hv
      have h3 : b ^ k ≤ b ^ ((digL b n).length - 1) := Nat.pow_le_pow_right (by omega) (by omega)
      have h4 : b ^ ((digL b n).length - 1) * 1 ≤ b ^ ((digL b n).length - 1) * (digL b n).getLast hne := Nat.mul_le_mul_left _ (by omega)
      omega
    · exact hk

/-! ### decimal texts -/
def isDig (c : UInt8) : Bool := decide (48 ≤ c.toNat) && decide (c.toNat ≤ 57)
theorem isDig_iff (c : UInt8) : isDig c = true ↔ 48 ≤ c.toNat ∧ c.toNat ≤ 57 := by simp [isDig]
def dv (c : UInt8) : Nat := c.toNat - 48
def dc (d : Nat) : UInt8 := UInt8.ofNat (48 + d)
theorem dc_toNat {d : Nat} (h : d < 10) : (dc d).toNat = 48 + d := by
  unfold dc; rw [UInt8.toNat_ofNat']; omega
theorem dv_dc {d : Nat} (h : d < 10) : dv (dc d) = d := by unfold dv; rw [dc_toNat h]; omega
theorem dc_dv {c : UInt8} (h : isDig c = true) : dc (dv c) = c := by
  rw [isDig_iff] at h
  apply UInt8.toNat_inj.1
  rw [dc_toNat (by unfold dv; omega)]; unfold dv; omega
theorem isDig_dc {d : Nat} (h : d < 10) : isDig (dc d) = true := by rw [isDig_iff, dc_toNat h]; omega
theorem dv_lt {c : UInt8} (h : isDig c = true) : dv c < 10 := by rw [isDig_iff] at h; unfold dv; omega
/-- the value of digits, the highest first -/
def decV (l : Bs) : Nat := valL 10 (l.map dv).reverse
theorem decV_nil : decV [] = 0 := rfl
theorem decV_append (a b : Bs) : decV (a ++ b) = decV b + 10 ^ b.length * decV a := by
  unfold decV
  rw [List.map_append, List.reverse_append, valL_append]; simp
theorem decV_snoc (a : Bs) (c : UInt8) : decV (a ++ [c]) = 10 * decV a + dv c := by
  rw [decV_append]; simp [decV, valL]; omega
theorem decV_lt {l : Bs} (h : ∀ c ∈ l, isDig c = true) : decV l < 10 ^ l.length := by
  have := valL_lt (b := 10) (l := (l.map dv).reverse) (by
    intro x hx
    rw [List.mem_reverse] at hx
    obtain ⟨c, hc, rfl⟩ := List.mem_map.1 hx
    exact dv_lt (h c hc))
  simpa [decV] using this
/-- a canonical text, of whatever length -/
def okT (l : Bs) : Prop := l ≠ [] ∧ (∀ c ∈ l, isDig c = true) ∧ (1 < l.length → l.head? ≠ some 48)
def decT (n : Nat) : Bs := if n = 0 then [48] else ((digL 10 n).reverse).map dc
theorem decT_zero : decT 0 = [48] := rfl
theorem decT_pos {n : Nat} (h : n ≠ 0) : decT n = ((digL 10 n).reverse).map dc := by unfold decT; rw [if_neg h]
theorem decT_digs (n : Nat) : ∀ c ∈ decT n, isDig c = true := by
  intro c hc
  unfold decT at hc
  split at hc
  · rw [List.mem_singleton.1 hc]; decide
  · obtain ⟨d, hd, rfl⟩ := List.mem_map.1 hc
    exact isDig_dc (digL_lt (by omega) n d (List.mem_reverse.1 hd))
theorem decV_decT (n : Nat) : decV (decT n) = n := by
  by_cases h : n = 0
  · subst h; rfl
  · rw [decT_pos h]
    unfold decV
    rw [List.map_map, ← List.map_reverse, List.reverse_reverse]
    have : (digL 10 n).map (dv ∘ dc) = digL 10 n := by
      conv => rhs; rw [← List.map_id (digL 10 n)]
      apply List.map_congr_left
      intro d hd
      exact dv_dc (digL_lt (by omega) n d hd)
    rw [this, valL_digL (by omega)]
theorem decT_ne (n : Nat) : decT n ≠ [] := by
  by_cases h : n = 0
  · subst h; simp [decT_zero]
  · rw [decT_pos h, digL_step (by omega) h]; simp
theorem okT_decT (n : Nat) : okT (decT n) := by
  refine ⟨decT_ne n, decT_digs n, fun hl => ?_⟩
  by_cases h : n = 0
  · subst h; simp [decT_zero] at hl
  · rw [decT_pos h, List.head?_map, List.head?_reverse]
    intro e
    cases hx : (digL 10 n).getLast? with
    | none => rw [hx] at e; cases e
    | some d =>
      rw [hx] at e
      simp only [Option.map_some, Option.some.injEq] at e
      have hlt := digL_lt (b := 10) (by omega) n d (List.mem_of_getLast? hx)
      have hz := digL_canon (b := 10) (by omega) n d hx
      have := congrArg UInt8.toNat e
      rw [dc_toNat hlt] at this
      have : (48 : UInt8).toNat = 48 := rfl
      omega
theorem decT_decV {l : Bs} (h : okT l) : decT (decV l) = l := by
  obtain ⟨hne, hd, hh⟩ := h
  by_cases h0 : decV l = 0
  · rw [h0, decT_zero]
    -- all digits are zero, so that there is one alone
    rcases l with _ | ⟨c, r⟩
    · exact absurd rfl hne
    · rw [show c :: r = [c] ++ r from rfl, decV_append] at h0
      have hc := hd c List.mem_cons_self
      have hdc : dv c = 0 := by
        have : 10 ^ r.length * decV [c] = 0 := by omega
        rcases Nat.mul_eq_zero.1 this with h | h
        · have := Nat.pow_pos (n := r.length) (show 0 < 10 by omega); omega
        · simpa [decV, valL] using h
      have hcc : c = 48 := by
        rw [← dc_dv hc, hdc]; rfl
      subst hcc
      cases r with
      | nil => rfl
      | cons a r => exact absurd rfl (hh (by simp))
  · rw [decT_pos h0]
    have hall : ∀ x ∈ (l.map dv).reverse, x < 10 := by
      intro x hx
      rw [List.mem_reverse] at hx
      obtain ⟨c, hc, rfl⟩ := List.mem_map.1 hx
      exact dv_lt (hd c hc)
    have hcan : Canon (l.map dv).reverse := by
      intro x hx
      rw [List.getLast?_reverse, List.head?_map] at hx
      rcases l with _ | ⟨c, r⟩
      · exact absurd rfl hne
      · simp only [List.head?_cons, Option.map_some, Option.some.injEq] at hx
        subst hx
        have hc := hd c List.mem_cons_self
        intro e
        have hcc : c = 48 := by rw [← dc_dv hc, e]; rfl
        subst hcc
        cases r with
        | nil => exact h0 rfl
        | cons a r => exact hh (by simp) rfl
    unfold decV
    rw [digL_valL (by omega) hall hcan, List.reverse_reverse, List.map_map]
    conv => rhs; rw [← List.map_id l]
    apply List.map_congr_left
    intro c hc
    exact dc_dv (hd c hc)
theorem decT_length (n k : Nat) (hk : 1 ≤ k) : (decT n).length ≤ k ↔ n < 10 ^ k := by
  by_cases h : n = 0
  · subst h
    have := Nat.pow_pos (n := k) (show 0 < 10 by omega)
    simp [decT_zero]; omega
  · rw [decT_pos h, List.length_map, List.length_reverse]
    exact digL_length (by omega) n k
theorem decT_inj {m n : Nat} (h : decT m = decT n) : m = n := by rw [← decV_decT m, h, decV_decT]
/-- a number with nine (or k) digits behind it -/
theorem decT_pad {V x k : Nat} (hV : 0 < V) (hx : x < 10 ^ k) (hk : 1 ≤ k) : decT (V * 10 ^ k + x) = decT V ++ (List.replicate (k - (decT x).length) 48 ++ decT x) := by
  have hlen := (decT_length x k hk).2 hx
  have hz : ∀ n, decV (List.replicate n (48 : UInt8)) = 0 := by
    intro n
    induction n with
    | zero => rfl
    | succ n ih => rw [List.replicate_succ', decV_snoc, ih]; rfl
  have hv : decV (decT V ++ (List.replicate (k - (decT x).length) 48 ++ decT x)) = V * 10 ^ k + x := by
    rw [decV_append, decV_append, decV_decT, decV_decT, hz, List.length_append, List.length_replicate]
    have : k - (decT x).length + (decT x).length = k := by omega
    rw [this, Nat.mul_zero, Nat.add_zero, Nat.mul_comm, Nat.add_comm]
  rw [← hv]
  apply decT_decV
  refine ⟨by simp [decT_ne], ?_, fun hl => ?_⟩
  · intro c hc
    rcases List.mem_append.1 hc with hc | hc
    · exact decT_digs V c hc
    · rcases List.mem_append.1 hc with hc | hc
      · rw [List.eq_of_mem_replicate hc]; decide
      · exact decT_digs x c hc
  · rw [List.head?_append]
    have hne := decT_ne V
    obtain ⟨c, r, hcr⟩ : ∃ c r, decT V = c :: r := by
      cases hd : decT V with
      | nil => exact absurd hd hne
      | cons c r => exact ⟨c, r, rfl⟩
    rw [hcr]
    simp only [List.head?_cons, Option.some_or]
    intro e
    injection e with e
    subst e
    -- the text of a number above 0 does not begin with 0
    by_cases hr : r = []
    · subst hr
      have := decV_decT V
      rw [hcr] at this
      have e2 : decV [48] = 0 := rfl
      omega
    · have := (okT_decT V).2.2 (by rw [hcr]; simp; exact List.length_pos_iff.2 hr)
      rw [hcr] at this
      exact this rfl

/- Sums, differences and products block by block. No program in sight. -/
set_option linter.unusedVariables false

/-- a state block by block: the blocks so far, what is carried -/
def eachS (F : Nat → Nat → Nat → Nat × Nat) (x y : List Nat) : Nat → List Nat × Nat
  | 0 => ([], 0)
  | i + 1 => ((eachS F x y i).1 ++ [(F (x.getD i 0) (y.getD i 0) (eachS F x y i).2).1], (F (x.getD i 0) (y.getD i 0) (eachS F x y i).2).2)
theorem eachS_length (F : Nat → Nat → Nat → Nat × Nat) (x y : List Nat) : ∀ i, (eachS F x y i).1.length = i
  | 0 => rfl
  | i + 1 => by simp only [eachS]; rw [List.length_append, eachS_length F x y i]; rfl
theorem valL_take (b : Nat) (x : List Nat) (i : Nat) : valL b (x.take (i + 1)) = valL b (x.take i) + b ^ i * x.getD i 0 := by
  rcases Nat.lt_or_ge i x.length with h | h
  · rw [List.take_succ_eq_append_getElem h, valL_snoc]
    have e1 : (x.take i).length = i := by rw [List.length_take]; omega
    have e2 : x.getD i 0 = x[i] := by rw [List.getD_eq_getElem?_getD, List.getElem?_eq_getElem h]; rfl
    rw [e1, e2]
  · have e2 : x.getD i 0 = 0 := by rw [List.getD_eq_getElem?_getD, List.getElem?_eq_none h]; rfl
    rw [e2, List.take_of_length_le h, List.take_of_length_le (by omega)]; rfl
theorem getD_lt {B : Nat} (hB : 0 < B) {x : List Nat} (h : ∀ d ∈ x, d < B) (i : Nat) : x.getD i 0 < B := by
  rw [List.getD_eq_getElem?_getD]
  cases hx : x[i]? with
  | none => exact hB
  | some d => exact h d (List.mem_of_getElem? hx)
theorem getD_far {x : List Nat} {i : Nat} (h : x.length ≤ i) : x.getD i 0 = 0 := by
  rw [List.getD_eq_getElem?_getD, List.getElem?_eq_none h]; rfl

def BB : Nat := 1000000000
theorem BB_two : 2 ≤ BB := by decide
theorem BB_pos : 0 < BB := by decide
def plusF (a b c : Nat) : Nat × Nat := ((a + b + c) % BB, (a + b + c) / BB)
def minusF (a b c : Nat) : Nat × Nat := ((a + BB - b - c) % BB, 1 - (a + BB - b - c) / BB)
def scaleF (k a b c : Nat) : Nat × Nat := ((a * k + c) % BB, (a * k + c) / BB)

theorem plus_inv {x y : List Nat} (hx : ∀ d ∈ x, d < BB) (hy : ∀ d ∈ y, d < BB) : ∀ i,
    valL BB (eachS plusF x y i).1 + BB ^ i * (eachS plusF x y i).2 = valL BB (x.take i) + valL BB (y.take i) ∧ (∀ d ∈ (eachS plusF x y i).1, d < BB) ∧ (eachS plusF x y i).2 ≤ 1
  | 0 => ⟨rfl, (fun d hd => by cases hd), Nat.zero_le _⟩
  | i + 1 => by
    obtain ⟨h1, h2, h3⟩ := plus_inv hx hy i
    have ha := getD_lt BB_pos hx i
    have hb := getD_lt BB_pos hy i
    have hlen := eachS_length plusF x y i
    simp only [eachS]
    rw [valL_snoc, hlen, valL_take, valL_take]
    generalize (eachS plusF x y i).2 = c at *
    generalize (eachS plusF x y i).1 = s at *
    generalize x.getD i 0 = a at *
    generalize y.getD i 0 = b at *
    refine ⟨?_, ?_, ?_⟩
    · unfold plusF
      simp only []
      have e := Nat.mod_add_div (a + b + c) BB
      have e2 : BB ^ i * ((a + b + c) % BB) + BB ^ (i + 1) * ((a + b + c) / BB) = BB ^ i * (a + b + c) := by
        rw [Nat.pow_succ, Nat.mul_assoc, ← Nat.mul_add, e]
      rw [Nat.mul_add, Nat.mul_add] at e2
      omega
    · intro d hd
      rcases List.mem_append.1 hd with hd | hd
      · exact h2 d hd
      · rw [List.mem_singleton.1 hd]; exact Nat.mod_lt _ BB_pos
    · unfold plusF
      simp only []
      have : a + b + c < 2 * BB := by omega
      have := (Nat.div_lt_iff_lt_mul BB_pos).2 this
      omega
theorem plus_val {x y : List Nat} (hx : ∀ d ∈ x, d < BB) (hy : ∀ d ∈ y, d < BB) {n : Nat} (h1 : x.length ≤ n) (h2 : y.length ≤ n) :
    valL BB (eachS plusF x y (n + 1)).1 = valL BB x + valL BB y ∧ ∀ d ∈ (eachS plusF x y (n + 1)).1, d < BB := by
  obtain ⟨i1, i2, i3⟩ := plus_inv hx hy (n + 1)
  obtain ⟨_, _, j3⟩ := plus_inv hx hy n
  rw [List.take_of_length_le (by omega), List.take_of_length_le (by omega)] at i1
  have hz : (eachS plusF x y (n + 1)).2 = 0 := by
    simp only [eachS]
    rw [getD_far h1, getD_far h2]
    generalize (eachS plusF x y n).2 = c at j3 ⊢
    unfold plusF
    simp only []
    apply Nat.div_eq_of_lt
    have := BB_two
    omega
  rw [hz, Nat.mul_zero, Nat.add_zero] at i1
  exact ⟨i1, i2⟩
theorem minus_inv {x y : List Nat} (hx : ∀ d ∈ x, d < BB) (hy : ∀ d ∈ y, d < BB) : ∀ i,
    valL BB (eachS minusF x y i).1 + valL BB (y.take i) = valL BB (x.take i) + BB ^ i * (eachS minusF x y i).2 ∧ (∀ d ∈ (eachS minusF x y i).1, d < BB) ∧ (eachS minusF x y i).2 ≤ 1
  | 0 => ⟨rfl, (fun d hd => by cases hd), Nat.zero_le _⟩
  | i + 1 => by
    obtain ⟨h1, h2, h3⟩ := minus_inv hx hy i
    have ha := getD_lt BB_pos hx i
    have hb := getD_lt BB_pos hy i
    have hlen := eachS_length minusF x y i
    simp only [eachS]
    rw [valL_snoc, hlen, valL_take, valL_take]
    generalize (eachS minusF x y i).2 = c at *
    generalize (eachS minusF x y i).1 = s at *
    generalize x.getD i 0 = a at *
    generalize y.getD i 0 = b at *
    have hd2 : (a + BB - b - c) / BB ≤ 1 := by
      have : a + BB - b - c < 2 * BB := by omega
      have := (Nat.div_lt_iff_lt_mul BB_pos).2 this
      omega
    refine ⟨?_, ?_, ?_⟩
    · unfold minusF
      simp only []
      have e := Nat.mod_add_div (a + BB - b - c) BB
      generalize (a + BB - b - c) / BB = q at *
      generalize (a + BB - b - c) % BB = r at *
      -- r + b + c = a + BB * (1 - q)
      have e3 : r + b + c = a + BB * (1 - q) := by
        rcases (show q = 0 ∨ q = 1 by omega) with rfl | rfl
        · simp; omega
        · simp; omega
      have e4 : BB ^ i * r + BB ^ i * b + BB ^ i * c = BB ^ i * a + BB ^ (i + 1) * (1 - q) := by
        rw [Nat.pow_succ, Nat.mul_assoc, ← Nat.mul_add, ← Nat.mul_add, ← Nat.mul_add, e3]
      omega
    · intro d hd
      rcases List.mem_append.1 hd with hd | hd
      · exact h2 d hd
      · rw [List.mem_singleton.1 hd]; exact Nat.mod_lt _ BB_pos
    · unfold minusF
      exact Nat.sub_le _ _
theorem minus_val {x y : List Nat} (hx : ∀ d ∈ x, d < BB) (hy : ∀ d ∈ y, d < BB) {n : Nat} (h1 : x.length ≤ n) (h2 : y.length ≤ n) (hle : valL BB y ≤ valL BB x) :
    valL BB (eachS minusF x y n).1 = valL BB x - valL BB y ∧ (eachS minusF x y n).2 = 0 ∧ ∀ d ∈ (eachS minusF x y n).1, d < BB := by
  obtain ⟨i1, i2, i3⟩ := minus_inv hx hy n
  rw [List.take_of_length_le h1, List.take_of_length_le h2] at i1
  have hlt := valL_lt i2
  rw [eachS_length] at hlt
  have hz : (eachS minusF x y n).2 = 0 := by
    rcases (show (eachS minusF x y n).2 = 0 ∨ (eachS minusF x y n).2 = 1 by omega) with h | h
    · exact h
    · rw [h] at i1; omega
  rw [hz, Nat.mul_zero, Nat.add_zero] at i1
  exact ⟨by omega, hz, i2⟩
theorem scale_inv {x : List Nat} {k : Nat} (hx : ∀ d ∈ x, d < BB) (hk : k ≤ BB) : ∀ i,
    valL BB (eachS (scaleF k) x [] i).1 + BB ^ i * (eachS (scaleF k) x [] i).2 = k * valL BB (x.take i) ∧ (∀ d ∈ (eachS (scaleF k) x [] i).1, d < BB) ∧ (eachS (scaleF k) x [] i).2 < BB
  | 0 => ⟨rfl, (fun d hd => by cases hd), BB_pos⟩
  | i + 1 => by
    obtain ⟨h1, h2, h3⟩ := scale_inv hx hk i
    have ha := getD_lt BB_pos hx i
    have hlen := eachS_length (scaleF k) x [] i
    simp only [eachS]
    rw [valL_snoc, hlen, valL_take]
    generalize (eachS (scaleF k) x [] i).2 = c at *
    generalize (eachS (scaleF k) x [] i).1 = s at *
    generalize x.getD i 0 = a at *
    refine ⟨?_, ?_, ?_⟩
    · unfold scaleF
      simp only []
      have e := Nat.mod_add_div (a * k + c) BB
      have e2 : BB ^ i * ((a * k + c) % BB) + BB ^ (i + 1) * ((a * k + c) / BB) = BB ^ i * (a * k) + BB ^ i * c := by
        rw [Nat.pow_succ, Nat.mul_assoc, ← Nat.mul_add, e, Nat.mul_add]
      have e3 : k * (BB ^ i * a) = BB ^ i * (a * k) := by rw [Nat.mul_left_comm, Nat.mul_comm k a]
      rw [Nat.mul_add, e3]
      omega
    · intro d hd
      rcases List.mem_append.1 hd with hd | hd
      · exact h2 d hd
      · rw [List.mem_singleton.1 hd]; exact Nat.mod_lt _ BB_pos
    · unfold scaleF
      simp only []
      apply (Nat.div_lt_iff_lt_mul BB_pos).2
      have : a * k ≤ (BB - 1) * BB := Nat.mul_le_mul (by omega) hk
      have e : (BB - 1) * BB + BB = BB * BB := by
        rw [← Nat.succ_mul, Nat.succ_eq_add_one, Nat.sub_add_cancel (by have := BB_pos; omega)]
      omega
theorem scale_val {x : List Nat} {k : Nat} (hx : ∀ d ∈ x, d < BB) (hk : k ≤ BB) {n : Nat} (h1 : x.length ≤ n) :
    valL BB (eachS (scaleF k) x [] (n + 1)).1 = k * valL BB x ∧ ∀ d ∈ (eachS (scaleF k) x [] (n + 1)).1, d < BB := by
  obtain ⟨i1, i2, i3⟩ := scale_inv hx hk (n + 1)
  obtain ⟨_, _, j3⟩ := scale_inv hx hk n
  rw [List.take_of_length_le (by omega)] at i1
  have hz : (eachS (scaleF k) x [] (n + 1)).2 = 0 := by
    simp only [eachS]
    rw [getD_far h1]
    generalize (eachS (scaleF k) x [] n).2 = c at j3 ⊢
    unfold scaleF
    simp only []
    apply Nat.div_eq_of_lt
    omega
  rw [hz, Nat.mul_zero, Nat.add_zero] at i1
  exact ⟨i1, i2⟩
theorem valL_set {b : Nat} : ∀ (l : List Nat) (j v : Nat) (h : j < l.length), valL b (l.set j v) + b ^ j * l[j] = valL b l + b ^ j * v
  | [], j, v, h => by simp at h
  | x :: r, 0, v, h => by simp [valL]; omega
  | x :: r, j + 1, v, h => by
    have ih := valL_set (b := b) r j v (by simpa using h)
    simp only [List.set_cons_succ, valL, List.getElem_cons_succ, Nat.pow_succ]
    have e1 : b * (valL b (r.set j v) + b ^ j * r[j]'(by simpa using h)) = b * (valL b r + b ^ j * v) := by rw [ih]
    rw [Nat.mul_add, Nat.mul_add] at e1
    have e2 : b ^ j * b * r[j]'(by simpa using h) = b * (b ^ j * r[j]'(by simpa using h)) := by rw [Nat.mul_comm (b ^ j) b, Nat.mul_assoc]
    have e3 : b ^ j * b * v = b * (b ^ j * v) := by rw [Nat.mul_comm (b ^ j) b, Nat.mul_assoc]
    rw [e2, e3]
    omega
/-- the estimate of a digit of a quotient never is too small -/
theorem est_ge {Q V U v1 top P Vr : Nat} (hQ : Q * V ≤ U) (hV : V = v1 * P + Vr) (hU : U < (top + 1) * P) : Q * v1 ≤ top := by
  have h1 : Q * (v1 * P) ≤ Q * V := Nat.mul_le_mul_left _ (by omega)
  rw [← Nat.mul_assoc] at h1
  have h2 : Q * v1 * P < (top + 1) * P := by omega
  have := Nat.lt_of_mul_lt_mul_right h2
  omega
theorem est_down {Q q rest top v1 v2 u2 B : Nat} (h1 : rest + q * v1 = top) (h3 : Q * (v1 * B + v2) ≤ top * B + u2) (hlt : rest * B + u2 < q * v2) : Q < q := by
  rcases Nat.lt_or_ge Q q with h | h
  · exact h
  · exfalso
    have h4 : q * (v1 * B + v2) ≤ Q * (v1 * B + v2) := Nat.mul_le_mul_right _ h
    rw [Nat.mul_add, ← Nat.mul_assoc] at h4
    rw [← h1, Nat.add_mul] at h3
    omega
theorem est_top {q V U v1 top P Vr rest B : Nat} (h1 : rest + q * v1 = top) (hV : V = v1 * P + Vr) (hVr : Vr < P) (hU : top * P ≤ U) (hr : B ≤ rest) (hq : q < B) : q * V ≤ U := by
  have e1 : q * V = q * v1 * P + q * Vr := by rw [hV, Nat.mul_add, Nat.mul_assoc]
  have e2 : q * Vr ≤ B * P := Nat.mul_le_mul (by omega) (by omega)
  have e3 : B * P ≤ rest * P := Nat.mul_le_mul_right _ hr
  rw [← h1, Nat.add_mul] at hU
  omega
theorem est_two {q V U v1 v2 u2 top P Vr rest B : Nat} (h1 : rest + q * v1 = top) (hV : V = (v1 * B + v2) * P + Vr) (hVr : Vr < P) (hU : (top * B + u2) * P ≤ U) (hq : q < B) (hv : 1 ≤ v1) (ht : q * v2 ≤ rest * B + u2) : q * V ≤ U + V := by
  have e1 : q * V = (q * (v1 * B + v2)) * P + q * Vr := by rw [hV, Nat.mul_add, Nat.mul_assoc]
  have e2 : q * Vr ≤ B * P := Nat.mul_le_mul (by omega) (by omega)
  have e3 : q * (v1 * B + v2) ≤ top * B + u2 := by
    rw [Nat.mul_add, ← Nat.mul_assoc, ← h1, Nat.add_mul]; omega
  have e4 : (q * (v1 * B + v2)) * P ≤ (top * B + u2) * P := Nat.mul_le_mul_right _ e3
  have e5 : B * P ≤ V := by
    rw [hV]
    have : B ≤ v1 * B + v2 := by
      have := Nat.mul_le_mul_right B hv
      omega
    have := Nat.mul_le_mul_right P this
    omega
  omega

/- What nat's functions answer. No program in sight. -/
set_option linter.unusedVariables false

def okTb (l : Bs) : Bool := !l.isEmpty && l.all isDig && (decide (l.length ≤ 1) || l.head? != some 48)
theorem okTb_iff (l : Bs) : okTb l = true ↔ okT l := by
  unfold okTb okT
  cases l with
  | nil => simp
  | cons c r =>
    simp only [List.isEmpty_cons, Bool.not_false, Bool.true_and, Bool.and_eq_true, List.all_eq_true, Bool.or_eq_true, decide_eq_true_eq, bne_iff_ne, ne_eq, List.length_cons]
    constructor
    · rintro ⟨h1, h2⟩
      refine ⟨by simp, h1, fun hl => ?_⟩
      rcases h2 with h2 | h2
      · omega
      · exact h2
    · rintro ⟨_, h1, h2⟩
      refine ⟨h1, ?_⟩
      by_cases hl : r.length + 1 ≤ 1
      · exact Or.inl hl
      · exact Or.inr (h2 (by omega))
/-- is it a natural number of at most 1000 digits? -/
def okN (l : Bs) : Bool := okTb l && decide (l.length ≤ 1000)
theorem okN_iff (l : Bs) : okN l = true ↔ okT l ∧ l.length ≤ 1000 := by unfold okN; rw [Bool.and_eq_true, okTb_iff, decide_eq_true_eq]
/-- the blocks of a number -/
def blk (n : Nat) : List Nat := digL BB n
theorem blk_lt (n : Nat) : ∀ d ∈ blk n, d < BB := digL_lt BB_two n
theorem blk_val (n : Nat) : valL BB (blk n) = n := valL_digL BB_two n
theorem blk_canon (n : Nat) : Canon (blk n) := digL_canon BB_two n
theorem blk_eq {l : List Nat} (h : ∀ d ∈ l, d < BB) (hc : Canon l) : blk (valL BB l) = l := digL_valL BB_two h hc
theorem blk_zero : blk 0 = [] := rfl
theorem blk_ne {n : Nat} (h : n ≠ 0) : blk n ≠ [] := by unfold blk; rw [digL_step BB_two h]; simp
theorem blk_nil {n : Nat} : blk n = [] ↔ n = 0 := by
  constructor
  · intro h
    have := blk_val n
    rw [h] at this
    exact this.symm
  · intro h; rw [h]; rfl
/-- the order of two numbers -/
def cmpI (m n : Nat) : Int := if m < n then -1 else if m = n then 0 else 1
theorem BB_pow (k : Nat) : BB ^ k = 10 ^ (9 * k) := by
  show (1000000000 : Nat) ^ k = _
  rw [show (1000000000 : Nat) = 10 ^ 9 from rfl, ← Nat.pow_mul]
theorem blk_of_decT {n k : Nat} (hk : 1 ≤ k) (h : (decT n).length ≤ 9 * k) : (blk n).length ≤ k :=
  (digL_length BB_two n k).2 (by rw [BB_pow]; exact (decT_length n (9 * k) (by omega)).1 h)
theorem okN_blk {l : Bs} (h : okN l = true) : (blk (decV l)).length ≤ 112 := by
  obtain ⟨h1, h2⟩ := (okN_iff l).1 h
  apply blk_of_decT (by omega)
  rw [decT_decV h1]; omega
theorem decT_mul (a b : Nat) : (decT (a * b)).length ≤ (decT a).length + (decT b).length := by
  have ha := (decT_length a _ (List.length_pos_iff.2 (decT_ne a))).1 (Nat.le_refl _)
  have hb := (decT_length b _ (List.length_pos_iff.2 (decT_ne b))).1 (Nat.le_refl _)
  apply (decT_length _ _ (by have := List.length_pos_iff.2 (decT_ne a); omega)).2
  rw [Nat.pow_add]
  exact Nat.mul_lt_mul'' ha hb
theorem decT_add (a b k : Nat) (hk : 1 ≤ k) (ha : (decT a).length ≤ k) (hb : (decT b).length ≤ k) : (decT (a + b)).length ≤ k + 1 := by
  have ha := (decT_length a k hk).1 ha
  have hb := (decT_length b k hk).1 hb
  apply (decT_length _ _ (by omega)).2
  rw [Nat.pow_succ]; omega
theorem decT_mono {a b : Nat} (h : a ≤ b) : (decT a).length ≤ (decT b).length := by
  have hb := (decT_length b _ (List.length_pos_iff.2 (decT_ne b))).1 (Nat.le_refl _)
  exact (decT_length a _ (List.length_pos_iff.2 (decT_ne b))).2 (by omega)
/-- a result that is not too long -/
def limN (n : Nat) : Bs × Nat := if 1000 < (decT n).length then ([], 2) else (decT n, 0)
def natAdd (a b : Bs) : Bs × Nat := if okN a = true ∧ okN b = true then limN (decV a + decV b) else ([], 1)
def natSub (a b : Bs) : Bs × Nat := if okN a = true ∧ okN b = true then (if decV a < decV b then ([], 4) else (decT (decV a - decV b), 0)) else ([], 1)
def natMul (a b : Bs) : Bs × Nat := if okN a = true ∧ okN b = true then limN (decV a * decV b) else ([], 1)
def natDiv (a b : Bs) : Bs × Bs × Nat := if okN a = true ∧ okN b = true then (if decV b = 0 then ([], [], 4) else (decT (decV a / decV b), decT (decV a % decV b), 0)) else ([], [], 1)
def natGcd (a b : Bs) : Bs × Nat := if okN a = true ∧ okN b = true then (decT (Nat.gcd (decV a) (decV b)), 0) else ([], 1)
def natCmp (a b : Bs) : Int := if okN a = true ∧ okN b = true then cmpI (decV a) (decV b) else 0

/-! ### blocks of a text -/
theorem decV_take9 {l : Bs} {k : Nat} (h : ∀ c ∈ l, isDig c = true) (hk : k ≤ l.length) : decV l = decV (l.drop k) + 10 ^ (l.length - k) * decV (l.take k) := by
  conv => lhs; rw [← List.take_append_drop k l, decV_append, List.length_drop]
/-- one round of blocks: what is left is a, the blocks so far are L -/
theorem blocks_step {V : Nat} {a : Bs} {L : List Nat} (hd : ∀ c ∈ a, isDig c = true) (hV : V = valL BB L + BB ^ L.length * decV a) (hL : ∀ d ∈ L, d < BB) (hne : a ≠ []) :
    V = valL BB (L ++ [decV (a.drop (a.length - 9))]) + BB ^ (L ++ [decV (a.drop (a.length - 9))]).length * decV (a.take (a.length - 9)) ∧ (∀ d ∈ L ++ [decV (a.drop (a.length - 9))], d < BB) ∧ (∀ c ∈ a.take (a.length - 9), isDig c = true) := by
  have hdd : ∀ c ∈ a.drop (a.length - 9), isDig c = true := fun c hc => hd c (List.mem_of_mem_drop hc)
  have hlt := decV_lt hdd
  rw [List.length_drop] at hlt
  have hle : 10 ^ (a.length - (a.length - 9)) ≤ 10 ^ 9 := Nat.pow_le_pow_right (by omega) (by omega)
  refine ⟨?_, ?_, fun c hc => hd c (List.mem_of_mem_take hc)⟩
  · rw [hV, valL_snoc, List.length_append, List.length_singleton, Nat.pow_succ, Nat.add_assoc, Nat.mul_assoc, ← Nat.mul_add]
    congr 2
    rcases Nat.lt_or_ge a.length 9 with h9 | h9
    · have e : a.length - 9 = 0 := by omega
      rw [e, List.drop_zero, List.take_zero, decV_nil]; omega
    · have := decV_take9 hd (k := a.length - 9) (by omega)
      have e : a.length - (a.length - 9) = 9 := by omega
      rw [e] at this
      exact this
  · intro d hd'
    rcases List.mem_append.1 hd' with hd' | hd'
    · exact hL d hd'
    · rw [List.mem_singleton.1 hd']
      exact Nat.lt_of_lt_of_le hlt hle
/-! ### the text of blocks -/
theorem text_step {l : List Nat} (hl : ∀ d ∈ l, d < BB) (hc : Canon l) {j : Nat} (hj : j + 1 < l.length) :
    decT (valL BB (l.drop j)) = decT (valL BB (l.drop (j + 1))) ++ (List.replicate (9 - (decT (l[j]'(by omega))).length) 48 ++ decT (l[j]'(by omega))) := by
  have hpos : 0 < valL BB (l.drop (j + 1)) := by
    apply valL_pos BB_pos
    · intro x hx
      rw [List.getLast?_drop, if_neg (by omega)] at hx
      exact hc x hx
    · intro e
      have := congrArg List.length e
      rw [List.length_drop, List.length_nil] at this
      omega
  rw [List.drop_eq_getElem_cons (show j < l.length by omega)]
  have e : valL BB (l[j] :: l.drop (j + 1)) = valL BB (l.drop (j + 1)) * 10 ^ 9 + l[j] := by
    show l[j] + BB * valL BB (l.drop (j + 1)) = _
    rw [Nat.mul_comm BB, Nat.add_comm]; rfl
  rw [e]
  exact decT_pad hpos (hl _ (List.getElem_mem _)) (by omega)
/-! ### the order of blocks -/
theorem cmp_len {m n : Nat} (h : (blk m).length < (blk n).length) : m < n := by
  have := valL_lt_of_len BB_two (blk_lt m) (blk_canon n) h
  rwa [blk_val, blk_val] at this
theorem cmp_top {m n : Nat} (hlen : (blk m).length = (blk n).length) {j : Nat} (hj : j < (blk m).length) (hd : (blk m).drop (j + 1) = (blk n).drop (j + 1)) (hlt : (blk m)[j] < (blk n)[j]'(by omega)) : m < n := by
  have := valL_lt_of_top hlen (blk_lt m) hj hd hlt
  rwa [blk_val, blk_val] at this
theorem cmpI_lt {m n : Nat} (h : m < n) : cmpI m n = -1 := by unfold cmpI; rw [if_pos h]
theorem cmpI_gt {m n : Nat} (h : n < m) : cmpI m n = 1 := by unfold cmpI; rw [if_neg (by omega), if_neg (by omega)]
theorem cmpI_eq {m n : Nat} (h : m = n) : cmpI m n = 0 := by unfold cmpI; rw [if_neg (by omega), if_pos h]
theorem cmpI_neg (m n : Nat) : cmpI m n < 0 ↔ m < n := by
  unfold cmpI
  split
  · simp_all
  · split <;> simp_all

/- Products in place, and digits of a quotient in place. No program in sight. -/
set_option linter.unusedVariables false

theorem mul_step {b : Nat} (hb : 0 < b) {L : List Nat} {i k q xi yk V0 Y Y' : Nat} (hlt : i + k < L.length) (h : valL b L + b ^ (i + k) * q = V0 + b ^ i * (xi * Y)) (hY : Y' = Y + b ^ k * yk) :
    valL b (L.set (i + k) ((L[i + k] + q + xi * yk) % b)) + b ^ (i + k + 1) * ((L[i + k] + q + xi * yk) / b) = V0 + b ^ i * (xi * Y') := by
  have e := valL_set (b := b) L (i + k) ((L[i + k] + q + xi * yk) % b) hlt
  have e1 := Nat.mod_add_div (L[i + k] + q + xi * yk) b
  have e2 : b ^ (i + k) * ((L[i + k] + q + xi * yk) % b) + b ^ (i + k + 1) * ((L[i + k] + q + xi * yk) / b) = b ^ (i + k) * L[i + k] + b ^ (i + k) * q + b ^ (i + k) * (xi * yk) := by
    rw [Nat.pow_succ, Nat.mul_assoc, ← Nat.mul_add, e1, Nat.mul_add, Nat.mul_add]
  have e3 : b ^ i * (xi * Y') = b ^ i * (xi * Y) + b ^ (i + k) * (xi * yk) := by
    rw [hY, Nat.mul_add, Nat.mul_add]
    congr 1
    rw [Nat.pow_add, Nat.mul_left_comm xi, Nat.mul_assoc]
  rw [e3]
  generalize valL b (L.set (i + k) ((L[i + k] + q + xi * yk) % b)) = S at *
  omega
theorem mul_step' {b : Nat} (hb : 0 < b) {L : List Nat} {i k j q xi yk V0 Y Y' : Nat} (hj : i + k = j) (hlt : j < L.length) (h : valL b L + b ^ (i + k) * q = V0 + b ^ i * (xi * Y)) (hY : Y' = Y + b ^ k * yk) :
    valL b (L.set j ((L[j] + q + xi * yk) % b)) + b ^ (i + (k + 1)) * ((L[j] + q + xi * yk) / b) = V0 + b ^ i * (xi * Y') := by
  subst hj
  rw [← Nat.add_assoc]
  exact mul_step hb hlt h hY
theorem set_lt {L : List Nat} {b j v : Nat} (h : ∀ d ∈ L, d < b) (hv : v < b) : ∀ d ∈ L.set j v, d < b := by
  intro d hd
  rcases List.mem_or_eq_of_mem_set hd with hd | hd
  · exact h d hd
  · rw [hd]; exact hv
/-- behind a round of the product nothing is carried -/
theorem mul_carry {b : Nat} (hb : 0 < b) {x y : List Nat} (hx : ∀ d ∈ x, d < b) (hy : ∀ d ∈ y, d < b) {i q S : Nat} (hi : i < x.length) (h : S + b ^ (i + (y.length + 1)) * q = valL b (x.take i) * valL b y + b ^ i * (x[i] * valL b y)) :
    q = 0 ∧ S = valL b (x.take (i + 1)) * valL b y := by
  have e : valL b (x.take (i + 1)) * valL b y = valL b (x.take i) * valL b y + b ^ i * (x[i] * valL b y) := by
    rw [valL_take, Nat.add_mul, Nat.mul_assoc]
    congr 3
    rw [List.getD_eq_getElem?_getD, List.getElem?_eq_getElem hi]; rfl
  rw [← e] at h
  have h1 := valL_lt (b := b) (l := x.take (i + 1)) fun d hd => hx d (List.mem_of_mem_take hd)
  have h2 := valL_lt hy
  rw [List.length_take, show min (i + 1) x.length = i + 1 by omega] at h1
  have h3 : valL b (x.take (i + 1)) * valL b y < b ^ (i + (y.length + 1)) := by
    rw [show i + (y.length + 1) = (i + 1) + y.length by omega, Nat.pow_add]
    exact Nat.mul_lt_mul'' h1 h2
  have hq : q = 0 := by
    rcases Nat.eq_zero_or_pos q with hq | hq
    · exact hq
    · have := Nat.mul_le_mul_left (b ^ (i + (y.length + 1))) hq
      omega
  subst hq
  exact ⟨rfl, by omega⟩
theorem valL_zeros (b n : Nat) : valL b (List.replicate n 0) = 0 := by
  induction n with
  | zero => rfl
  | succ n ih => rw [List.replicate_succ]; simp only [valL]; rw [ih]; rfl
theorem BB_sq {a q x y : Nat} (ha : a < BB) (hq : q < BB) (hx : x < BB) (hy : y < BB) : x * y ≤ 999999999 * 999999999 ∧ (a + q + x * y) / BB < BB := by
  have h : x * y ≤ 999999999 * 999999999 := Nat.mul_le_mul (by unfold BB at hx; omega) (by unfold BB at hy; omega)
  refine ⟨h, (Nat.div_lt_iff_lt_mul BB_pos).2 ?_⟩
  unfold BB at *
  omega

/- A digit of a quotient, in place. No program in sight. -/
set_option linter.unusedVariables false

theorem take_set_le {T : List Nat} {i v : Nat} : (T.set i v).take i = T.take i := by
  apply List.ext_getElem
  · simp
  · intro j h1 h2
    simp only [List.length_take, List.length_set] at h1
    rw [List.getElem_take, List.getElem_take, List.getElem_set_ne (by omega)]
theorem valL_take_set {b : Nat} {T : List Nat} {i v : Nat} (h : i < T.length) : valL b ((T.set i v).take (i + 1)) = valL b (T.take i) + b ^ i * v := by
  rw [valL_take, take_set_le]
  congr 2
  rw [List.getD_eq_getElem?_getD, List.getElem?_set_self h]; rfl
theorem drop_set_at {L : List Nat} {o i v : Nat} : (L.set (o + i) v).drop o = (L.drop o).set i v := by
  apply List.ext_getElem
  · simp
  · intro j h1 h2
    rw [List.getElem_drop, List.getElem_set, List.getElem_set]
    by_cases h : i = j
    · subst h; simp
    · rw [if_neg (by omega), if_neg h, List.getElem_drop]
theorem take_set_ge {L : List Nat} {o i v : Nat} : (L.set (o + i) v).take o = L.take o := by
  apply List.ext_getElem
  · simp
  · intro j h1 h2
    simp only [List.length_take, List.length_set] at h1
    rw [List.getElem_take, List.getElem_take, List.getElem_set_ne (by omega)]
theorem drop_set_lt {T : List Nat} {i v k : Nat} (h : i < k) : (T.set i v).drop k = T.drop k := by
  apply List.ext_getElem
  · simp
  · intro j h1 h2
    rw [List.getElem_drop, List.getElem_drop, List.getElem_set_ne (by omega)]
/-- a round of the subtraction of q times v -/
theorem sub_step {b i q X Vi Ui bo ca u v r p bo' : Nat} (h : X + q * Vi = Ui + b ^ i * (bo + ca)) (hp : p = ca + q * v) (hr : r + p % b + bo = u + b * bo') :
    (X + b ^ i * r) + q * (Vi + b ^ i * v) = (Ui + b ^ i * u) + b ^ (i + 1) * (bo' + p / b) := by
  have e := Nat.mod_add_div p b
  have e1 : b ^ i * r + b ^ i * (p % b) + b ^ i * bo = b ^ i * u + b ^ (i + 1) * bo' := by
    rw [Nat.pow_succ, Nat.mul_assoc, ← Nat.mul_add, ← Nat.mul_add, ← Nat.mul_add, hr]
  have e2 : b ^ i * (p % b) + b ^ (i + 1) * (p / b) = b ^ i * ca + b ^ i * (q * v) := by
    rw [Nat.pow_succ, Nat.mul_assoc, ← Nat.mul_add, e, hp, Nat.mul_add]
  rw [Nat.mul_add] at h
  rw [Nat.mul_add q, Nat.mul_add (b ^ (i + 1)), Nat.mul_left_comm q]
  omega
/-- a round of the addition of v -/
theorem add_step {b i X Vi Ui ca u v s : Nat} (h : X + b ^ i * ca = Ui + Vi) (hs : s = u + ca + v) :
    (X + b ^ i * (s % b)) + b ^ (i + 1) * (s / b) = (Ui + b ^ i * u) + (Vi + b ^ i * v) := by
  have e := Nat.mod_add_div s b
  have e1 : b ^ i * (s % b) + b ^ (i + 1) * (s / b) = b ^ i * u + b ^ i * ca + b ^ i * v := by
    rw [Nat.pow_succ, Nat.mul_assoc, ← Nat.mul_add, e, hs, Nat.mul_add, Nat.mul_add]
  omega
/-- the window is all that lies above -/
theorem window_all {b : Nat} (hb : 0 < b) {T : List Nat} {k : Nat} (h : valL b T < b ^ k) : valL b (T.take k) = valL b T ∧ valL b (T.drop k) = 0 := by
  rcases Nat.lt_or_ge T.length k with hk | hk
  · rw [List.take_of_length_le (by omega), List.drop_of_length_le (by omega)]; exact ⟨rfl, rfl⟩
  · have e : valL b T = valL b (T.take k) + b ^ k * valL b (T.drop k) := by
      conv => lhs; rw [← List.take_append_drop k T, valL_append, List.length_take, Nat.min_eq_left hk]
    have hz : valL b (T.drop k) = 0 := by
      rcases Nat.eq_zero_or_pos (valL b (T.drop k)) with hz | hz
      · exact hz
      · have := Nat.mul_le_mul_left (b ^ k) hz
        omega
    rw [hz] at e
    exact ⟨by omega, hz⟩
theorem valL_take_drop {b : Nat} {T : List Nat} {k : Nat} (hk : k ≤ T.length) : valL b T = valL b (T.take k) + b ^ k * valL b (T.drop k) := by
  conv => lhs; rw [← List.take_append_drop k T, valL_append, List.length_take, Nat.min_eq_left hk]
/-- borrow 0: the estimate is the digit -/
theorem digit_exact {q Q X U V : Nat} (hV : 0 < V) (hQ : Q = U / V) (hge : Q ≤ q) (h : X + q * V = U) : q = Q ∧ X = U % V := by
  have h1 : q * V ≤ U := by omega
  have h2 : q ≤ U / V := (Nat.le_div_iff_mul_le hV).2 h1
  have hq : q = Q := by omega
  refine ⟨hq, ?_⟩
  have := Nat.mod_add_div U V
  rw [hq, hQ, Nat.mul_comm] at h
  omega
/-- borrow 1: the estimate is one too great -/
theorem digit_less {q Q X U V E X' c : Nat} (hV : 0 < V) (hQ : Q = U / V) (h : X + q * V = U + E) (hX : X < E) (htop : q * V ≤ U + V) (h2 : X' + E * c = X + V) (hX' : X' < E) (hVE : V ≤ E) : q = Q + 1 ∧ X' = U % V := by
  have h0 := Nat.mod_add_div U V
  have hm := Nat.mod_lt U hV
  rw [← hQ] at h0
  have h1 : U < q * V := by omega
  have hgt : Q < q := by
    rcases Nat.lt_or_ge Q q with hh | hh
    · exact hh
    · have := Nat.mul_le_mul_right V hh
      rw [Nat.mul_comm Q V] at this
      omega
  have hle : q ≤ Q + 1 := by
    rcases Nat.lt_or_ge (Q + 1) q with hh | hh
    · have h3 : (Q + 2) * V ≤ q * V := Nat.mul_le_mul_right V hh
      have e3 : (Q + 2) * V = V * Q + 2 * V := by rw [Nat.add_mul, Nat.mul_comm Q V]
      omega
    · exact hh
  have hq : q = Q + 1 := by omega
  refine ⟨hq, ?_⟩
  have e4 : q * V = V * Q + V := by rw [hq, Nat.add_mul, Nat.mul_comm Q V, Nat.one_mul]
  have h5 : X' + E * c = E + U % V := by omega
  have hc : c = 1 := by
    rcases Nat.lt_or_ge c 1 with hc | hc
    · obtain rfl : c = 0 := by omega
      omega
    · rcases Nat.lt_or_ge 1 c with hc2 | hc2
      · have := Nat.mul_le_mul_left E hc2
        omega
      · omega
  rw [hc] at h5
  omega

/- The estimate of a digit of a quotient, on lists. No program in sight. -/
set_option linter.unusedVariables false

theorem win1 {b : Nat} (T : List Nat) {n : Nat} (hn : 1 ≤ n) : valL b (T.take (n + 1)) = valL b (T.take (n - 1)) + b ^ (n - 1) * (T.getD n 0 * b + T.getD (n - 1) 0) := by
  obtain ⟨k, rfl⟩ : ∃ k, n = k + 1 := ⟨n - 1, by omega⟩
  rw [valL_take, Nat.add_sub_cancel, valL_take, Nat.pow_succ, Nat.mul_add]
  have : b ^ k * b * T.getD (k + 1) 0 = b ^ k * (T.getD (k + 1) 0 * b) := by rw [Nat.mul_assoc, Nat.mul_comm b]
  rw [this]; omega
theorem win2 {b : Nat} (T : List Nat) {n : Nat} (hn : 2 ≤ n) : valL b (T.take (n + 1)) = valL b (T.take (n - 2)) + b ^ (n - 2) * ((T.getD n 0 * b + T.getD (n - 1) 0) * b + T.getD (n - 2) 0) := by
  obtain ⟨k, rfl⟩ : ∃ k, n = k + 2 := ⟨n - 2, by omega⟩
  rw [win1 T (by omega)]
  simp only [Nat.add_sub_cancel, show k + 2 - 1 = k + 1 from rfl]
  rw [valL_take, Nat.pow_succ, Nat.mul_add (b ^ k)]
  have : b ^ k * b * (T.getD (k + 2) 0 * b + T.getD (k + 1) 0) = b ^ k * ((T.getD (k + 2) 0 * b + T.getD (k + 1) 0) * b) := by rw [Nat.mul_assoc, Nat.mul_comm b]
  rw [this]; omega
theorem vin1 {b : Nat} {V : List Nat} {n : Nat} (hV : V.length = n) (hn : 1 ≤ n) : valL b V = V.getD (n - 1) 0 * b ^ (n - 1) + valL b (V.take (n - 1)) := by
  obtain ⟨k, rfl⟩ : ∃ k, n = k + 1 := ⟨n - 1, by omega⟩
  have := valL_take b V k
  rw [List.take_of_length_le (by omega)] at this
  rw [this, Nat.add_sub_cancel, Nat.mul_comm (b ^ k)]; omega
theorem vin2 {b : Nat} {V : List Nat} {n : Nat} (hV : V.length = n) (hn : 2 ≤ n) : valL b V = (V.getD (n - 1) 0 * b + V.getD (n - 2) 0) * b ^ (n - 2) + valL b (V.take (n - 2)) := by
  obtain ⟨k, rfl⟩ : ∃ k, n = k + 2 := ⟨n - 2, by omega⟩
  rw [vin1 hV (by omega)]
  simp only [Nat.add_sub_cancel, show k + 2 - 1 = k + 1 from rfl]
  rw [valL_take, Nat.pow_succ, Nat.add_mul, Nat.mul_comm (b ^ k) b, Nat.mul_comm (b ^ k) (V.getD k 0), Nat.mul_assoc]
  omega
theorem take_lt {b : Nat} (hb : 0 < b) {T : List Nat} (h : ∀ d ∈ T, d < b) (k : Nat) : valL b (T.take k) < b ^ k := by
  have h1 := valL_lt (b := b) (l := T.take k) fun d hd => h d (List.mem_of_mem_take hd)
  exact Nat.lt_of_lt_of_le h1 (Nat.pow_le_pow_right hb (by rw [List.length_take]; omega))
theorem top_ne {V : List Nat} {n : Nat} (hV : V.length = n) (hn : 1 ≤ n) (hc : Canon V) : 1 ≤ V.getD (n - 1) 0 := by
  have hl : V.getLast? = V[n - 1]? := by rw [List.getLast?_eq_getElem?, hV]
  have hlt : n - 1 < V.length := by omega
  have := hc V[n - 1] (by rw [hl, List.getElem?_eq_getElem hlt])
  rw [List.getD_eq_getElem?_getD, List.getElem?_eq_getElem hlt]
  show 1 ≤ V[n - 1]
  omega
/-- all that the walk of a digit wants of its window -/
structure Win (T V : List Nat) (n top v1 Q : Nat) : Prop where
  q0 : Q ≤ top / v1
  hv : 1 ≤ v1
  vpos : 0 < valL BB V
  qlt : Q < BB
  one : n = 1 → ∀ q rest, rest + q * v1 = top → q * valL BB V ≤ valL BB (T.take (n + 1)) + valL BB V
  far : ∀ q rest, rest + q * v1 = top → BB ≤ rest → q < BB → q * valL BB V ≤ valL BB (T.take (n + 1)) + valL BB V
  near : 2 ≤ n → ∀ q rest, rest + q * v1 = top → q < BB → q * V.getD (n - 2) 0 ≤ rest * BB + T.getD (n - 2) 0 → q * valL BB V ≤ valL BB (T.take (n + 1)) + valL BB V
  down : 2 ≤ n → ∀ q rest, rest + q * v1 = top → Q ≤ q → rest * BB + T.getD (n - 2) 0 < q * V.getD (n - 2) 0 → Q < q
theorem win_of {T V : List Nat} {n : Nat} (hV : V.length = n) (hn : 1 ≤ n) (hVl : ∀ d ∈ V, d < BB) (hT : ∀ d ∈ T, d < BB) (hc : Canon V) (hlt : valL BB (T.take (n + 1)) < BB * valL BB V) :
    Win T V n (T.getD n 0 * BB + T.getD (n - 1) 0) (V.getD (n - 1) 0) (valL BB (T.take (n + 1)) / valL BB V) := by
  have hv1 := top_ne hV hn hc
  have hvp : 0 < valL BB V := valL_pos BB_pos hc (by intro e; rw [e] at hV; simp at hV; omega)
  have e1 := win1 (b := BB) T hn
  have f1 := vin1 (b := BB) hV hn
  have l1 := take_lt BB_pos hT (n - 1)
  have m1 := take_lt BB_pos hVl (n - 1)
  have hQ : valL BB (T.take (n + 1)) / valL BB V * valL BB V ≤ valL BB (T.take (n + 1)) := Nat.div_mul_le_self _ _
  have hQlt : valL BB (T.take (n + 1)) / valL BB V < BB := (Nat.div_lt_iff_lt_mul hvp).2 hlt
  have hU1 : valL BB (T.take (n + 1)) < (T.getD n 0 * BB + T.getD (n - 1) 0 + 1) * BB ^ (n - 1) := by
    rw [e1, Nat.add_mul _ 1, Nat.one_mul, Nat.mul_comm (BB ^ (n - 1))]; omega
  have hU2 : (T.getD n 0 * BB + T.getD (n - 1) 0) * BB ^ (n - 1) ≤ valL BB (T.take (n + 1)) := by
    rw [e1, Nat.mul_comm (BB ^ (n - 1))]; omega
  generalize hUe : valL BB (T.take (n + 1)) = Uv at *
  generalize hVe : valL BB V = Vv at *
  have hge : Uv / Vv * V.getD (n - 1) 0 ≤ T.getD n 0 * BB + T.getD (n - 1) 0 := est_ge hQ f1 hU1
  refine ⟨(Nat.le_div_iff_mul_le hv1).2 hge, hv1, by rw [hVe]; exact hvp, hQlt, ?_, ?_, ?_, ?_⟩
  · intro h1 q rest h
    subst h1
    simp only [Nat.sub_self, Nat.pow_zero, Nat.mul_one, List.take_zero] at f1 hU2
    have hz : valL BB [] = 0 := rfl
    rw [hz, Nat.add_zero] at f1
    simp only [Nat.sub_self] at h
    rw [hUe, hVe, f1]
    rw [← h] at hU2
    omega
  · intro q rest h hr hq
    have := est_top h f1 m1 hU2 hr hq
    rw [hUe, hVe]
    omega
  · intro h2 q rest h hq ht
    have e2 := win2 (b := BB) T h2
    have f2 := vin2 (b := BB) hV h2
    have m2 := take_lt BB_pos hVl (n - 2)
    rw [hUe] at e2
    rw [hVe] at f2
    have hU3 : ((T.getD n 0 * BB + T.getD (n - 1) 0) * BB + T.getD (n - 2) 0) * BB ^ (n - 2) ≤ Uv := by
      rw [e2, Nat.mul_comm (BB ^ (n - 2))]; omega
    rw [hUe, hVe]
    exact est_two h f2 m2 hU3 hq hv1 ht
  · intro h2 q rest h hge2 ht
    have e2 := win2 (b := BB) T h2
    have f2 := vin2 (b := BB) hV h2
    have l2 := take_lt BB_pos hT (n - 2)
    rw [hUe] at e2
    rw [hVe] at f2
    have hU4 : Uv < ((T.getD n 0 * BB + T.getD (n - 1) 0) * BB + T.getD (n - 2) 0 + 1) * BB ^ (n - 2) := by
      rw [e2, Nat.add_mul _ 1, Nat.one_mul, Nat.mul_comm (BB ^ (n - 2))]; omega
    have h3 := est_ge hQ f2 hU4
    exact est_down h h3 ht
theorem getD_of_drop {X Y : List Nat} {k : Nat} (h : X.drop k = Y.drop k) : X.getD k 0 = Y.getD k 0 := by
  have e : ∀ Z : List Nat, Z.getD k 0 = (Z.drop k).headD 0 := fun Z => by rw [List.getD_eq_getElem?_getD, List.headD_eq_head?_getD, List.head?_drop]
  rw [e, e, h]
theorem getD_drop_at {L : List Nat} {o k : Nat} (h : o + k < L.length) : L[o + k] = (L.drop o).getD k 0 := by
  rw [List.getD_eq_getElem?_getD, List.getElem?_drop, List.getElem?_eq_getElem h]; rfl
theorem sub_round {u p b1 : Nat} (hu : u < BB) (hb : b1 ≤ 1) : (u + BB - p % BB - b1) % BB + p % BB + b1 = u + BB * (1 - (u + BB - p % BB - b1) / BB) ∧ 1 - (u + BB - p % BB - b1) / BB ≤ 1 := by
  have h1 := Nat.mod_lt p BB_pos
  generalize p % BB = r at *
  have e := Nat.mod_add_div (u + BB - r - b1) BB
  have hd : (u + BB - r - b1) / BB ≤ 1 := by
    have : u + BB - r - b1 < 2 * BB := by omega
    have := (Nat.div_lt_iff_lt_mul BB_pos).2 this
    omega
  refine ⟨?_, Nat.sub_le _ _⟩
  generalize (u + BB - r - b1) / BB = s at *
  generalize (u + BB - r - b1) % BB = x at *
  rcases (show s = 0 ∨ s = 1 by omega) with rfl | rfl
  · simp; omega
  · simp; omega
theorem carry_lt {c1 qv : Nat} (hc : c1 < BB) (hq : qv ≤ 999999999 * 999999999) : (c1 + qv) / BB < BB := by
  apply (Nat.div_lt_iff_lt_mul BB_pos).2
  unfold BB at *
  omega

/- The last phase of a division: all blocks divided by one; the frame of long division. No program in sight. -/
set_option linter.unusedVariables false

/-- one block more, from the top -/
theorem short_step {b k O X left r : Nat} (hk : 0 < k) (h : O = k * X + left) :
    r + b * O = k * ((left * b + r) / k + b * X) + (left * b + r) % k := by
  have e := Nat.mod_add_div (left * b + r) k
  rw [h, Nat.mul_add k, Nat.mul_add b]
  have e2 : b * (k * X) = k * (b * X) := Nat.mul_left_comm b k X
  have e3 : b * left = left * b := Nat.mul_comm b left
  omega
theorem short_lt {b k left r : Nat} (hk : 0 < k) (hl : left < k) (hr : r < b) : (left * b + r) / k < b := by
  apply (Nat.div_lt_iff_lt_mul hk).2
  have := Nat.mul_le_mul_right b hl
  rw [Nat.succ_mul] at this
  rw [Nat.mul_comm b k]
  omega
/-- the scaling that divide uses keeps the length of the divisor -/
theorem scale_keeps {V : List Nat} {n : Nat} (hn : V.length = n) (h1 : 1 ≤ n) (hl : ∀ d ∈ V, d < BB) : BB / (V.getD (n - 1) 0 + 1) * valL BB V < BB ^ n := by
  have f1 := vin1 (b := BB) hn h1
  have m1 := take_lt BB_pos hl (n - 1)
  have hlt : valL BB V < (V.getD (n - 1) 0 + 1) * BB ^ (n - 1) := by rw [f1, Nat.add_mul, Nat.one_mul]; omega
  obtain ⟨k, rfl⟩ : ∃ k, n = k + 1 := ⟨n - 1, by omega⟩
  rw [Nat.add_sub_cancel] at *
  have hpos : 0 < BB / (V.getD k 0 + 1) := by
    apply Nat.div_pos _ (by omega)
    have := getD_lt BB_pos hl k
    omega
  have h3 : BB / (V.getD k 0 + 1) * valL BB V < BB / (V.getD k 0 + 1) * ((V.getD k 0 + 1) * BB ^ k) := Nat.mul_lt_mul_of_pos_left hlt hpos
  have h4 : BB / (V.getD k 0 + 1) * ((V.getD k 0 + 1) * BB ^ k) ≤ BB * BB ^ k := by
    rw [← Nat.mul_assoc]
    exact Nat.mul_le_mul_right _ (Nat.div_mul_le_self _ _)
  rw [Nat.pow_succ, Nat.mul_comm (BB ^ k)]
  omega
/-- one digit more of a quotient -/
theorem long_step {b t U0 V Qs u u' Q : Nat} (h : U0 = b ^ (t + 1) * Qs * V + u) (hu : u' + b ^ t * (Q * V) = u) : U0 = b ^ t * (Q + b * Qs) * V + u' := by
  rw [h, ← hu, Nat.mul_add (b ^ t), Nat.add_mul, Nat.pow_succ]
  have e1 : b ^ t * (b * Qs) * V = b ^ t * b * Qs * V := by rw [Nat.mul_assoc (b ^ t) b Qs]
  have e2 : b ^ t * Q * V = b ^ t * (Q * V) := Nat.mul_assoc _ _ _
  rw [e1, e2]
  omega

/- Long division on lists: the window at the top, one round, the end; the short division at the end. No program in sight. -/
set_option linter.unusedVariables false

theorem valL_cut (b : Nat) {L : List Nat} {t : Nat} (h : t ≤ L.length) : valL b L = valL b (L.take t) + b ^ t * valL b (L.drop t) := by
  have e := valL_append b (L.take t) (L.drop t)
  rw [List.take_append_drop, List.length_take, Nat.min_eq_left h] at e
  exact e
theorem valL_drop_at (b : Nat) {L : List Nat} {t : Nat} (h : t < L.length) : valL b (L.drop t) = L[t] + b * valL b (L.drop (t + 1)) := by
  rw [List.drop_eq_getElem_cons h]; rfl
theorem drop_set_here {L : List Nat} {t : Nat} (h : t < L.length) (x : Nat) : (L.set t x).drop t = x :: L.drop (t + 1) := by
  have h' : t < (L.set t x).length := by rw [List.length_set]; exact h
  rw [List.drop_eq_getElem_cons h', List.getElem_set_self, List.drop_set_of_lt (by omega)]
theorem valL_set_here (b : Nat) {L : List Nat} {t : Nat} (h : t < L.length) (x : Nat) : valL b ((L.set t x).drop t) = x + b * valL b (L.drop (t + 1)) := by
  rw [drop_set_here h]; rfl
/-- what divide scales with -/
def sclK (n : Nat) : Nat := BB / ((blk n).getD ((blk n).length - 1) 0 + 1)
theorem sclK_pos (n : Nat) : 1 ≤ sclK n := by
  unfold sclK
  have := getD_lt BB_pos (blk_lt n) ((blk n).length - 1)
  exact Nat.div_pos (by omega) (by omega)
theorem sclK_le (n : Nat) : sclK n ≤ BB := Nat.div_le_self _ _
theorem blk_low {n : Nat} (h : n ≠ 0) : BB ^ ((blk n).length - 1) ≤ n := by
  have hne := blk_ne h
  have hp := List.length_pos_iff.2 hne
  have := (digL_length BB_two n ((blk n).length - 1))
  unfold blk at *
  rcases Nat.lt_or_ge n (BB ^ ((digL BB n).length - 1)) with h1 | h1
  · have := this.2 h1; omega
  · exact h1
theorem blk_high (n : Nat) : n < BB ^ (blk n).length := (digL_length BB_two n _).1 (Nat.le_refl _)
theorem scl_len {n : Nat} (h : n ≠ 0) : (blk (sclK n * n)).length = (blk n).length := by
  have hp := List.length_pos_iff.2 (blk_ne h)
  have h1 : (blk (sclK n * n)).length ≤ (blk n).length := by
    apply (digL_length BB_two _ _).2
    have := scale_keeps (V := blk n) rfl hp (blk_lt n)
    rwa [blk_val] at this
  have h2 : (blk n).length ≤ (blk (sclK n * n)).length := by
    apply (digL_length BB_two _ _).2
    have := blk_high (sclK n * n)
    have h3 := Nat.mul_le_mul_right n (sclK_pos n)
    omega
  omega
theorem scl_len_more (m n : Nat) : (blk m).length ≤ (blk (sclK n * m)).length ∧ (blk (sclK n * m)).length ≤ (blk m).length + 1 := by
  constructor
  · apply (digL_length BB_two _ _).2
    have := blk_high (sclK n * m)
    have h3 := Nat.mul_le_mul_right m (sclK_pos n)
    omega
  · apply (digL_length BB_two _ _).2
    rw [Nat.pow_succ, Nat.mul_comm (BB ^ _)]
    have h1 := blk_high m
    have h2 := Nat.mul_le_mul_right m (sclK_le n)
    have h3 : BB * m < BB * BB ^ (blk m).length := Nat.mul_lt_mul_of_pos_left h1 BB_pos
    omega
theorem div_open {m n : Nat} {L : List Nat} (hn : n ≠ 0) (hmn : n ≤ m) (hL : L.length = (blk m).length + 1) (hv : valL BB L = sclK n * m) :
    valL BB (L.drop (L.length - (blk n).length)) < sclK n * n := by
  have hp := List.length_pos_iff.2 (blk_ne hn)
  have hle : (blk n).length ≤ (blk m).length := by
    apply (digL_length BB_two _ _).2
    have := blk_high m
    omega
  have hcut := valL_cut BB (L := L) (t := L.length - (blk n).length) (by omega)
  rw [hv] at hcut
  have h1 := blk_high m
  have h2 := blk_low hn
  obtain ⟨a, ha⟩ : ∃ a, L.length - (blk n).length = a := ⟨_, rfl⟩
  have hsplit : (blk m).length = a + ((blk n).length - 1) := by omega
  rw [hsplit, Nat.pow_add] at h1
  rw [ha] at hcut ⊢
  have hk := sclK_pos n
  generalize sclK n = k at *
  have h3 : k * m < k * (BB ^ a * BB ^ ((blk n).length - 1)) := Nat.mul_lt_mul_of_pos_left h1 hk
  have h4 : k * (BB ^ a * BB ^ ((blk n).length - 1)) ≤ BB ^ a * (k * n) := by
    rw [Nat.mul_left_comm]
    exact Nat.mul_le_mul_left _ (Nat.mul_le_mul_left _ h2)
  have h5 : BB ^ a * valL BB (L.drop a) < BB ^ a * (k * n) := by omega
  exact Nat.lt_of_mul_lt_mul_left h5
theorem div_window {L : List Nat} {V o : Nat} (ho : o < L.length) (hL : ∀ d ∈ L, d < BB) (h : valL BB (L.drop (o + 1)) < V) : valL BB (L.drop o) < BB * V := by
  rw [valL_drop_at BB ho]
  have h1 := hL _ (List.getElem_mem ho)
  have h2 : BB * (valL BB (L.drop (o + 1)) + 1) ≤ BB * V := Nat.mul_le_mul_left _ h
  rw [Nat.mul_add, Nat.mul_one] at h2
  omega
theorem div_round {U0 V o : Nat} {L L' Q : List Nat} (hV : 0 < V) (hQ : o < Q.length) (ho : o ≤ L.length) (hl : L'.length = L.length) (h : U0 = BB ^ (o + 1) * valL BB (Q.drop (o + 1)) * V + valL BB L)
    (ht : L'.take o = L.take o) (hd : valL BB (L'.drop o) = valL BB (L.drop o) % V) :
    U0 = BB ^ o * valL BB ((Q.set o (valL BB (L.drop o) / V)).drop o) * V + valL BB L' ∧ valL BB (L'.drop o) < V := by
  refine ⟨?_, by rw [hd]; exact Nat.mod_lt _ hV⟩
  rw [valL_set_here BB hQ]
  refine long_step h ?_
  rw [valL_cut BB (L := L') (t := o) (by omega), valL_cut BB (L := L) ho, ht, hd, Nat.add_assoc, ← Nat.mul_add]
  congr 2
  rw [Nat.mul_comm (valL BB (L.drop o) / V)]
  exact Nat.mod_add_div _ _
theorem div_digit {L : List Nat} {V o : Nat} (h : valL BB (L.drop o) < BB * V) : valL BB (L.drop o) / V < BB := by
  apply Nat.div_lt_of_lt_mul
  rw [Nat.mul_comm]; exact h
theorem div_end {k m n a u : Nat} (hk : 1 ≤ k) (h : k * m = a * (k * n) + u) (hu : u < k * n) : a = m / n ∧ u = k * (m % n) := by
  have h0 : 0 < k * n := by omega
  have e1 : a = k * m / (k * n) := by
    rw [h, Nat.mul_comm a, Nat.mul_add_div h0, Nat.div_eq_of_lt hu]; omega
  have e2 : u = k * m % (k * n) := by
    rw [h, Nat.mul_comm a, Nat.mul_add_mod, Nat.mod_eq_of_lt hu]
  exact ⟨by rw [e1, Nat.mul_div_mul_left _ _ hk], by rw [e2, Nat.mul_mod_mul_left]⟩
/-- one round of the division by k: R0 is what was there, L what is there now -/
theorem short_round {k left o : Nat} {R0 L : List Nat} (hk : 0 < k) (hR : ∀ d ∈ R0, d < BB) (hl : L.length = R0.length) (ho : o < R0.length) (ht : L.take (o + 1) = R0.take (o + 1)) (hleft : left < k)
    (h : valL BB (R0.drop (o + 1)) = k * valL BB (L.drop (o + 1)) + left) :
    ((left * BB + L[o]'(by omega)) / k < BB) ∧ (left * BB + L[o]'(by omega)) % k < k ∧ (L.set o ((left * BB + L[o]'(by omega)) / k)).take o = R0.take o ∧
      valL BB (R0.drop o) = k * valL BB ((L.set o ((left * BB + L[o]'(by omega)) / k)).drop o) + (left * BB + L[o]'(by omega)) % k := by
  have e : L[o]'(by omega) = R0[o] := by
    have h1 : (L.take (o + 1))[o]'(by rw [List.length_take]; omega) = (R0.take (o + 1))[o]'(by rw [List.length_take]; omega) := by
      congr 1
    rwa [List.getElem_take, List.getElem_take] at h1
  rw [e]
  have hr := hR _ (List.getElem_mem ho)
  refine ⟨short_lt hk hleft hr, Nat.mod_lt _ hk, ?_, ?_⟩
  · rw [List.take_set_of_le (by omega)]
    have := congrArg (List.take o) ht
    rwa [List.take_take, List.take_take, Nat.min_eq_left (by omega)] at this
  · rw [valL_set_here BB (by omega), valL_drop_at BB ho]
    exact short_step hk h
theorem short_end {k r left : Nat} {L : List Nat} (hk : 0 < k) (h : k * r = k * valL BB L + left) (hl : left < k) : valL BB L = r := by
  have e : r = k * r / k := by rw [Nat.mul_div_cancel_left _ hk]
  rw [e, h, Nat.mul_add_div hk, Nat.div_eq_of_lt hl]; omega

/- Rational numbers and their texts. No program in sight. -/
set_option linter.unusedVariables false

theorem mkRat_den (z : Int) {d : Nat} (hd : d ≠ 0) : (mkRat z d).den = d / Nat.gcd z.natAbs d := by
  rw [Rat.mkRat_def, dif_neg hd, Rat.normalize_eq]
theorem mkRat_num (z : Int) {d : Nat} (hd : d ≠ 0) : (mkRat z d).num = z / ((Nat.gcd z.natAbs d : Nat) : Int) := by
  rw [Rat.mkRat_def, dif_neg hd, Rat.normalize_eq]
theorem mkRat_abs (z : Int) {d : Nat} (hd : d ≠ 0) : (mkRat z d).num.natAbs = z.natAbs / Nat.gcd z.natAbs d := by
  rw [mkRat_num z hd, Int.natAbs_ediv_of_dvd]
  · rfl
  · exact Int.ofNat_dvd_left.2 (Nat.gcd_dvd_left _ _)
theorem mkRat_neg (z : Int) {d : Nat} (hd : d ≠ 0) : (mkRat z d).num < 0 ↔ z < 0 := by
  rw [mkRat_num z hd]
  have hg : 0 < Nat.gcd z.natAbs d := Nat.gcd_pos_of_pos_right _ (by omega)
  have hg' : (0 : Int) < ((Nat.gcd z.natAbs d : Nat) : Int) := by omega
  constructor
  · intro h
    apply Int.not_le.1
    intro h0
    have := Int.ediv_nonneg h0 (Int.le_of_lt hg')
    omega
  · intro h
    exact Int.ediv_neg_of_neg_of_pos h hg'
/-- a sign and a number -/
def sgn (neg : Bool) (n : Nat) : Int := if neg then -(n : Int) else n
theorem sgn_abs (neg : Bool) (n : Nat) : (sgn neg n).natAbs = n := by unfold sgn; split <;> omega
theorem sgn_neg (neg : Bool) (n : Nat) : sgn neg n < 0 ↔ neg = true ∧ n ≠ 0 := by unfold sgn; cases neg <;> simp <;> omega
theorem sgn_mul (p q : Bool) (m n : Nat) : sgn p m * sgn q n = sgn (p != q) (m * n) := by
  unfold sgn; cases p <;> cases q <;> simp [Int.neg_mul, Int.mul_neg]
theorem sgn_of (z : Int) : sgn (decide (z < 0)) z.natAbs = z := by unfold sgn; by_cases h : z < 0 <;> simp [h] <;> omega
theorem rat_mul (p q : Bool) (m n d e : Nat) : mkRat (sgn p m) d * mkRat (sgn q n) e = mkRat (sgn (p != q) (m * n)) (d * e) := by
  rw [Rat.mkRat_mul_mkRat, sgn_mul]
theorem rat_inv (p : Bool) (m d : Nat) (hd : d ≠ 0) (hm : m ≠ 0) : (mkRat (sgn p m) d)⁻¹ = mkRat (sgn p d) m := by
  have h : mkRat (sgn p m) d ≠ 0 := by
    rw [Ne, Rat.mkRat_eq_zero hd]
    unfold sgn; split <;> omega
  have e : mkRat (sgn p m) d * mkRat (sgn p d) m = 1 := by
    rw [rat_mul, ← Rat.mkRat_self 1]
    refine (Rat.mkRat_eq_iff (Nat.mul_ne_zero hd hm) (by simp)).2 ?_
    simp [sgn, Nat.mul_comm]
  have := congrArg (fun x => (mkRat (sgn p m) d)⁻¹ * x) e
  simp only [← Rat.mul_assoc, Rat.mul_one, Rat.inv_mul_cancel _ h, Rat.one_mul] at this
  exact this.symm
/-- the sum of two numbers with signs -/
def addS (s : Bool) (a : Nat) (t : Bool) (b : Nat) : Bool × Nat := if s = t then (s, a + b) else if a < b then (t, b - a) else (s, a - b)
theorem addS_eq (s t : Bool) (a b : Nat) : sgn (addS s a t b).1 (addS s a t b).2 = sgn s a + sgn t b := by
  unfold addS sgn
  cases s <;> cases t <;> simp
  · split <;> simp <;> omega
  · split <;> simp <;> omega
  · omega
theorem rat_add (p q : Bool) (m n d e : Nat) (hd : d ≠ 0) (he : e ≠ 0) :
    mkRat (sgn p m) d + mkRat (sgn q n) e = mkRat (sgn (addS p (m * e) q (n * d)).1 (addS p (m * e) q (n * d)).2) (d * e) := by
  rw [Rat.mkRat_add_mkRat _ _ hd he, addS_eq]
  congr 1
  unfold sgn
  cases p <;> cases q <;> simp [Int.neg_mul]

/-- the canonical text of a rational number -/
def ratT (q : Rat) : Bs := (if q.num < 0 then [45] else []) ++ (decT q.num.natAbs ++ (if q.den = 1 then [] else 47 :: decT q.den))
/-- the number, if it is not too long -/
def limR (q : Rat) : Bs × Nat := if 400 < (decT q.num.natAbs).length ∨ 400 < (decT q.den).length then ([], 2) else (ratT q, 0)
/-- what is before and behind the first byte c -/
def cutB (c : UInt8) : Bs → Option (Bs × Bs)
  | [] => none
  | x :: r => if x = c then some ([], r) else (cutB c r).map fun p => (x :: p.1, p.2)
theorem cutB_none {c : UInt8} : ∀ {l : Bs}, cutB c l = none ↔ c ∉ l
  | [] => by simp [cutB]
  | x :: r => by
    unfold cutB
    by_cases h : x = c
    · simp [h]
    · have ih := cutB_none (c := c) (l := r)
      simp [h, ih, Ne.symm h]
theorem cutB_some {c : UInt8} : ∀ {l a b : Bs}, cutB c l = some (a, b) ↔ l = a ++ c :: b ∧ c ∉ a
  | [], a, b => by simp [cutB]
  | x :: r, a, b => by
    unfold cutB
    by_cases h : x = c
    · subst h
      simp only [if_true, Option.some.injEq, Prod.mk.injEq]
      constructor
      · rintro ⟨rfl, rfl⟩; simp
      · rintro ⟨h1, h2⟩
        cases a with
        | nil => simp at h1; exact ⟨rfl, h1⟩
        | cons y s => simp at h1; exact absurd h1.1 (by simp at h2; exact h2.1)
    · rw [if_neg h]
      simp only [Option.map_eq_some_iff, Prod.exists, Prod.mk.injEq]
      constructor
      · rintro ⟨a', b', h1, rfl, rfl⟩
        obtain ⟨h2, h3⟩ := cutB_some.1 h1
        rw [h2]; simp [h3, Ne.symm h]
      · rintro ⟨h1, h2⟩
        cases a with
        | nil => simp at h1; exact absurd h1.1 h
        | cons y s =>
          simp at h1 h2
          exact ⟨s, b, cutB_some.2 ⟨h1.2, h2.2⟩, by rw [h1.1], rfl⟩
def ratS (l : Bs) : Bool × Bs := if l.head? = some 45 then (true, l.tail) else (false, l)
def ratF (r : Bs) : Bool × Bs × Bs := match cutB 47 r with
  | some p => (true, p.1, p.2)
  | none => (false, r, [49])
def ratOk (neg frac : Bool) (n d : Bs) : Bool :=
  okN n && okN d && decide (n.length ≤ 400) && decide (d.length ≤ 400) && !(neg && n == [48]) && !(frac && (d == [48] || d == [49])) && decide (Nat.gcd (decV n) (decV d) = 1)
/-- the parts of a text that is a rational number -/
def ratP (l : Bs) : Option (Bool × Bs × Bs) :=
  if ratOk (ratS l).1 (ratF (ratS l).2).1 (ratF (ratS l).2).2.1 (ratF (ratS l).2).2.2 = true then some ((ratS l).1, (ratF (ratS l).2).2.1, (ratF (ratS l).2).2.2) else none
theorem ratOk_iff (neg frac : Bool) (n d : Bs) : ratOk neg frac n d = true ↔ okT n ∧ okT d ∧ n.length ≤ 400 ∧ d.length ≤ 400 ∧ (neg = true → n ≠ [48]) ∧ (frac = true → d ≠ [48] ∧ d ≠ [49]) ∧ Nat.gcd (decV n) (decV d) = 1 := by
  unfold ratOk
  simp only [Bool.and_eq_true, Bool.not_eq_true', decide_eq_true_eq, Bool.and_eq_false_iff, Bool.or_eq_false_iff, okN_iff]
  constructor
  · rintro ⟨⟨⟨⟨⟨⟨⟨h1, _⟩, h2, _⟩, h3⟩, h4⟩, h5⟩, h6⟩, h7⟩
    refine ⟨h1, h2, h3, h4, ?_, ?_, h7⟩
    · rintro rfl; simp at h5; exact h5
    · rintro rfl; simp at h6; exact h6
  · rintro ⟨h1, h2, h3, h4, h5, h6, h7⟩
    refine ⟨⟨⟨⟨⟨⟨⟨h1, by omega⟩, h2, by omega⟩, h3⟩, h4⟩, ?_⟩, ?_⟩, h7⟩
    · cases neg with
      | false => exact Or.inl rfl
      | true => right; simpa using h5 rfl
    · cases frac with
      | false => exact Or.inl rfl
      | true => right; simpa using h6 rfl
theorem okT_zero {l : Bs} (h : okT l) : decV l = 0 ↔ l = [48] := by
  constructor
  · intro e; rw [← decT_decV h, e]; rfl
  · rintro rfl; rfl
theorem okT_one {l : Bs} (h : okT l) : decV l = 1 ↔ l = [49] := by
  constructor
  · intro e; rw [← decT_decV h, e]; rfl
  · rintro rfl; rfl
theorem decV_one : decV [49] = 1 := rfl
theorem decT_one : decT 1 = [49] := rfl
theorem dec_no {n : Nat} {c : UInt8} (hc : isDig c = false) : c ∉ decT n := fun h => by rw [decT_digs n c h] at hc; cases hc
theorem ratS_eq (l : Bs) : l = (if (ratS l).1 = true then [45] else []) ++ (ratS l).2 := by
  unfold ratS
  split
  · rename_i h
    cases l with
    | nil => simp at h
    | cons x r => simp at h; simp [h]
  · simp
theorem ratF_eq (r : Bs) : r = (ratF r).2.1 ++ (if (ratF r).1 = true then 47 :: (ratF r).2.2 else []) ∧ ((ratF r).1 = false → (ratF r).2.2 = [49]) := by
  unfold ratF
  cases h : cutB 47 r with
  | none => simp
  | some p =>
    obtain ⟨h1, h2⟩ := cutB_some.1 (show cutB 47 r = some (p.1, p.2) by rw [h])
    simp [← h1]
theorem ratP_some {l : Bs} {p : Bool} {n d : Bs} (h : ratP l = some (p, n, d)) : ∃ q : Rat, l = ratT q ∧ p = decide (q.num < 0) ∧ n = decT q.num.natAbs ∧ d = decT q.den ∧ n.length ≤ 400 ∧ d.length ≤ 400 ∧ q = mkRat (sgn p (decV n)) (decV d) := by
  unfold ratP at h
  split at h
  · rename_i hok
    have e1 := ratS_eq l
    obtain ⟨e2, e3⟩ := ratF_eq (ratS l).2
    simp only [Option.some.injEq, Prod.mk.injEq] at h
    obtain ⟨hp, hn, hd⟩ := h
    rw [hp, hn, hd] at hok
    rw [hp] at e1
    rw [hn, hd] at e2
    rw [hd] at e3
    generalize (ratF (ratS l).2).1 = fr at *
    obtain ⟨h1, h2, h3, h4, h5, h6, h7⟩ := (ratOk_iff _ _ _ _).1 hok
    have hd0 : decV d ≠ 0 := by
      intro e0
      have := (okT_zero h2).1 e0
      cases fr with
      | true => exact (h6 rfl).1 this
      | false => rw [e3 rfl] at this; simp at this
    have hd1 : decV d = 1 ↔ fr = false := by
      rw [okT_one h2]
      cases fr with
      | true => simp; exact (h6 rfl).2
      | false => simp; exact e3 rfl
    have hred : (sgn p (decV n)).natAbs.Coprime (decV d) := by rw [sgn_abs]; exact h7
    have hneg : sgn p (decV n) < 0 ↔ p = true := by
      rw [sgn_neg]
      constructor
      · exact fun h => h.1
      · exact fun h => ⟨h, fun e0 => h5 h ((okT_zero h1).1 e0)⟩
    refine ⟨⟨sgn p (decV n), decV d, hd0, hred⟩, ?_, ?_, ?_, ?_, h3, h4, ?_⟩
    · unfold ratT
      simp only [sgn_abs, decT_decV h1, decT_decV h2, hneg, hd1]
      rw [e1, e2]
      cases fr <;> simp
    · simp only [hneg]; simp
    · simp only [sgn_abs]; exact (decT_decV h1).symm
    · exact (decT_decV h2).symm
    · exact (Rat.mkRat_self (⟨sgn p (decV n), decV d, hd0, hred⟩ : Rat)).symm
  · cases h
theorem ratS_T (q : Rat) : ratS (ratT q) = (decide (q.num < 0), decT q.num.natAbs ++ (if q.den = 1 then [] else 47 :: decT q.den)) := by
  unfold ratT
  by_cases h : q.num < 0
  · simp [h, ratS]
  · rw [if_neg h, List.nil_append]
    unfold ratS
    have hh : (decT q.num.natAbs ++ (if q.den = 1 then [] else 47 :: decT q.den)).head? ≠ some 45 := by
      intro e
      have hne := decT_ne q.num.natAbs
      cases hd : decT q.num.natAbs with
      | nil => exact hne hd
      | cons x r =>
        rw [hd] at e; simp at e
        have := decT_digs q.num.natAbs x (by rw [hd]; simp)
        rw [e] at this
        exact absurd this (by decide)
    rw [if_neg hh]; simp [h]
theorem ratF_T (q : Rat) : ratF (decT q.num.natAbs ++ (if q.den = 1 then [] else 47 :: decT q.den)) = (decide (q.den ≠ 1), decT q.num.natAbs, decT q.den) := by
  have hno : (47 : UInt8) ∉ decT q.num.natAbs := dec_no (by decide)
  unfold ratF
  by_cases h : q.den = 1
  · rw [if_pos h, List.append_nil, cutB_none.2 hno]; simp [h, decT_one]
  · rw [if_neg h, cutB_some.2 ⟨rfl, hno⟩]; simp [h]
theorem ratP_T {q : Rat} (h1 : (decT q.num.natAbs).length ≤ 400) (h2 : (decT q.den).length ≤ 400) : ratP (ratT q) = some (decide (q.num < 0), decT q.num.natAbs, decT q.den) := by
  unfold ratP
  rw [ratS_T]
  simp only [ratF_T]
  rw [if_pos]
  refine (ratOk_iff _ _ _ _).2 ⟨okT_decT _, okT_decT _, h1, h2, ?_, ?_, ?_⟩
  · intro hn e
    have := (okT_zero (okT_decT _)).2 e
    rw [decV_decT] at this
    simp at hn; omega
  · intro hf
    simp at hf
    constructor
    · intro e
      have := (okT_zero (okT_decT _)).2 e
      rw [decV_decT] at this
      exact q.den_nz this
    · intro e
      have := (okT_one (okT_decT _)).2 e
      rw [decV_decT] at this
      exact hf this
  · rw [decV_decT, decV_decT]; exact q.reduced
theorem ratT_inj {p q : Rat} (h : ratT p = ratT q) : p = q := by
  have h1 := ratS_T p
  rw [h, ratS_T q] at h1
  simp only [Prod.mk.injEq] at h1
  obtain ⟨h1, h2⟩ := h1
  have h3 := ratF_T p
  rw [← h2, ratF_T q] at h3
  simp only [Prod.mk.injEq] at h3
  obtain ⟨_, h4, h5⟩ := h3
  have e1 := decT_inj h4
  have e2 := decT_inj h5
  have hs : (decide (p.num < 0)) = decide (q.num < 0) := h1.symm
  rw [decide_eq_decide] at hs
  apply Rat.ext
  · omega
  · exact e2.symm
/-- the value of a text -/
def ratV (l : Bs) : Option Rat := (ratP l).map fun x => mkRat (sgn x.1 (decV x.2.1)) (decV x.2.2)
theorem ratV_some {l : Bs} {q : Rat} (h : ratV l = some q) : l = ratT q ∧ (decT q.num.natAbs).length ≤ 400 ∧ (decT q.den).length ≤ 400 ∧ ratP l = some (decide (q.num < 0), decT q.num.natAbs, decT q.den) := by
  unfold ratV at h
  rw [Option.map_eq_some_iff] at h
  obtain ⟨⟨p, n, d⟩, h1, h2⟩ := h
  obtain ⟨q', e1, e2, e3, e4, e5, e6, e7⟩ := ratP_some h1
  rw [← e7] at h2
  subst h2
  exact ⟨e1, by rw [← e3]; exact e5, by rw [← e4]; exact e6, by rw [h1, e2, e3, e4]⟩
theorem ratV_T {q : Rat} (h1 : (decT q.num.natAbs).length ≤ 400) (h2 : (decT q.den).length ≤ 400) : ratV (ratT q) = some q := by
  unfold ratV
  rw [ratP_T h1 h2]
  simp only [Option.map_some, decV_decT, sgn_of, Rat.mkRat_self]
theorem ratV_none {l : Bs} : ratV l = none ↔ ratP l = none := by unfold ratV; rw [Option.map_eq_none_iff]
/-- the fraction of two numbers with a sign, as it is written -/
def mkT (neg : Bool) (n d : Nat) : Bs × Nat := limR (mkRat (sgn neg n) d)
theorem mkT_eq (neg : Bool) (n : Nat) {d : Nat} (hd : d ≠ 0) :
    mkT neg n d = if 400 < (decT (n / Nat.gcd n d)).length ∨ 400 < (decT (d / Nat.gcd n d)).length then ([], 2) else
      ((if neg = true ∧ n ≠ 0 then [45] else []) ++ (decT (n / Nat.gcd n d) ++ (if d / Nat.gcd n d = 1 then [] else 47 :: decT (d / Nat.gcd n d))), 0) := by
  unfold mkT limR ratT
  rw [mkRat_abs _ hd, mkRat_den _ hd, sgn_abs]
  simp only [mkRat_neg _ hd, sgn_neg]
/-! what rat's functions answer -/
def ratOp (f : Rat → Rat → Bs × Nat) (a b : Bs) : Bs × Nat := match ratV a, ratV b with
  | some p, some q => f p q
  | _, _ => ([], 1)
def ratAdd : Bs → Bs → Bs × Nat := ratOp fun p q => limR (p + q)
def ratSub : Bs → Bs → Bs × Nat := ratOp fun p q => limR (p - q)
def ratMul : Bs → Bs → Bs × Nat := ratOp fun p q => limR (p * q)
def ratDiv : Bs → Bs → Bs × Nat := ratOp fun p q => if q = 0 then ([], 4) else limR (p / q)
def ratNeg (a : Bs) : Bs × Nat := ratSub [48] a
def ratMake (neg : Bool) (n d : Bs) : Bs × Nat := if okN n = true ∧ okN d = true ∧ d ≠ [48] then mkT neg (decV n) (decV d) else ([], 1)
def ratCmp (a b : Bs) : Int := match ratV a, ratV b with
  | some p, some q => if p = q then 0 else if p < q then -1 else 1
  | _, _ => 0

/- Long division, digit by digit, on texts. No program in sight. -/
set_option linter.unusedVariables false

theorem decT_digit {x : Nat} (h : x < 10) : decT x = [dc x] := by
  rcases (show x = 0 ∨ x = 1 ∨ x = 2 ∨ x = 3 ∨ x = 4 ∨ x = 5 ∨ x = 6 ∨ x = 7 ∨ x = 8 ∨ x = 9 by omega) with rfl | rfl | rfl | rfl | rfl | rfl | rfl | rfl | rfl | rfl <;> rfl
theorem decT_snoc {V x : Nat} (hV : 0 < V) (hx : x < 10) : decT (10 * V + x) = decT V ++ [dc x] := by
  have h := decT_pad (V := V) (x := x) (k := 1) hV (by omega) (Nat.le_refl _)
  rw [decT_digit hx] at h
  rw [Nat.mul_comm]
  exact h
/-- one digit more behind a remainder -/
theorem rem_more {V : Nat} {c : UInt8} (hc : isDig c = true) : (if V = 0 then [c] else decT V ++ [c]) = decT (10 * V + dv c) := by
  by_cases h : V = 0
  · subst h
    rw [if_pos rfl, Nat.mul_zero, Nat.zero_add, decT_digit (dv_lt hc), dc_dv hc]
  · rw [if_neg h, decT_snoc (by omega) (dv_lt hc), dc_dv hc]
theorem quo_more {P n x k R : Nat} (hn : 0 < n) (h : k * n + R = 10 * (P % n) + x) (hR : R < n) : (10 * P + x) / n = 10 * (P / n) + k ∧ (10 * P + x) % n = R := by
  have e := Nat.mod_add_div P n
  have h1 : 10 * P + x = n * (10 * (P / n) + k) + R := by
    have h2 : n * (10 * (P / n) + k) = 10 * (n * (P / n)) + k * n := by
      rw [Nat.mul_add, Nat.mul_left_comm, Nat.mul_comm n k]
    omega
  rw [h1]
  constructor
  · rw [Nat.mul_add_div hn, Nat.div_eq_of_lt hR]; omega
  · rw [Nat.mul_add_mod, Nat.mod_eq_of_lt hR]
theorem quo_digit {P n x k R : Nat} (hn : 0 < n) (hx : x < 10) (h : k * n + R = 10 * (P % n) + x) (hR : n ≤ R) : k + 1 ≤ 9 := by
  have h1 := Nat.mod_lt P hn
  have h2 : (k + 1) * n < 10 * n := by
    rw [Nat.add_mul, Nat.one_mul]
    have : 10 * (P % n) + x < 10 * n := by omega
    omega
  have := Nat.lt_of_mul_lt_mul_right h2
  omega
theorem decV_zero_head {l : Bs} (h : l.head? = some 48) : decV l = decV l.tail := by
  cases l with
  | nil => simp at h
  | cons c r =>
    simp at h
    subst h
    show decV ([48] ++ r) = decV r
    rw [decV_append]
    simp [decV, valL, dv]
theorem strip_more {q : Bs} {k : Nat} (hk : k < q.length) (h : q[k] = 48) : decV (q.drop (k + 1)) = decV (q.drop k) := by
  rw [List.drop_eq_getElem_cons hk, decV_zero_head (l := q[k] :: q.drop (k + 1)) (by simp [h])]
  rfl
theorem strip_end {q : Bs} {k : Nat} (hd : ∀ c ∈ q, isDig c = true) (hk : k < q.length) (h : k + 1 = q.length ∨ q[k] ≠ 48) : q.drop k = decT (decV (q.drop k)) := by
  refine (decT_decV ⟨?_, fun c hc => hd c (List.mem_of_mem_drop hc), fun hl => ?_⟩).symm
  · intro e
    have := congrArg List.length e
    rw [List.length_drop] at this
    simp at this
    omega
  · rw [List.length_drop] at hl
    rw [List.head?_drop, List.getElem?_eq_getElem hk]
    rcases h with h | h
    · omega
    · simpa using h
theorem take_dec {l : Bs} {k : Nat} (hk : k < l.length) : decV (l.take (k + 1)) = 10 * decV (l.take k) + dv l[k] := by
  rw [List.take_succ_eq_append_getElem hk, decV_snoc]
theorem decT_small {n k : Nat} (hn : n < 10 ^ k) (hk : 1 ≤ k) : (decT n).length ≤ k := (decT_length n k hk).2 hn
end Go.Proofs.YtfgmjdhoeilhcaaGreatDoor
