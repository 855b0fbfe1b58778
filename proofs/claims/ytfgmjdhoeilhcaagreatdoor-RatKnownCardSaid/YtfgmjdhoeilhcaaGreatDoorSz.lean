/- Walks of the reference of nat: at, limited, digits. -/
import Derived.Test.YtfgmjdhoeilhcaaGreatDoorRa
import Derived.Test.YtfgmjdhoeilhcaaGreatDoorNz
import Derived.OwnWalk
namespace Go.Proofs.YtfgmjdhoeilhcaaGreatDoor
open Go.RowKit
set_option linter.unusedVariables false

/-- a digit as the reference holds it -/
def I (n : Nat) : Value := .int .i64 n
theorem getI {l : List Nat} {k : Nat} (h : k < l.length) : (l.map I)[k]? = some (I l[k]) := by simp [h]
theorem intInfo : (Tryz.prog.info? 3).map (fun i => (i.zero, i.size, i.bytes)) = some (some (.int .i64 0), 1, 8) := by kernel_rfl

set_option maxHeartbeats 1000000 in
set_option maxRecDepth 100000 in
theorem rat_any (A : Option Addr) (c : Nat) (l : List Nat) (i : Nat) (w : World) (hrow : RowAt w A (l.map I)) :
    Calls Tryz.prog 94 #[.slice A l.length c, .int .i64 i] w fun e w' => e = .returned (.int .i64 (l.getD i 0 : Nat)) ∧ w = w' := by
  by_cases h : i < l.length
  · obtain ⟨b, o, rfl, hbl, hcell⟩ := hrow (by intro e; rw [List.map_eq_nil_iff] at e; rw [e] at h; simp at h)
    have hc : w.cell? ⟨b, o + i, none⟩ = some (.int .i64 l[i]) := hcell i _ (getI h)
    have HG := Lib.hid (getD_eq h)
    clear hcell
    go_enter Tryz.func94, Tryz.ntmps94
    go_wp2_with fail
    go_returns
    exact ⟨by rw [HG.out]; rfl, rfl⟩
  · have HG := Lib.hid (getD_far (x := l) (i := i) (by omega))
    clear hrow
    go_enter Tryz.func94, Tryz.ntmps94
    go_wp2_with fail
    go_returns
    exact ⟨by rw [HG.out]; rfl, rfl⟩
set_option maxHeartbeats 1000000 in
set_option maxRecDepth 100000 in
theorem rlimited_any (s : ByteArray) (w : World) :
    Calls Tryz.prog 111 #[.string s] w fun e w' => e = .returned (if 1000 < s.size then .tuple #[.string ⟨#[]⟩, .int .i64 2] else .tuple #[.string s, .int .i64 0]) ∧ w = w' := by
  by_cases h : 1000 < s.size
  · rw [if_pos h]
    go_enter Tryz.func111, Tryz.ntmps111
    go_wp2_with fail
    go_returns
    exact ⟨rfl, rfl⟩
  · rw [if_neg h]
    go_enter Tryz.func111, Tryz.ntmps111
    go_wp2_with fail
    go_returns
    exact ⟨rfl, rfl⟩

/- Walks of the reference of nat: digits. -/
open Go.RowKit
set_option linter.unusedVariables false

/-- the digits, the lowest one first -/
def revD (l : Bs) : List Nat := (l.map dv).reverse
theorem revD_val (l : Bs) : valL 10 (revD l) = decV l := rfl
/-- what a function answers that returns digits -/
def DigPost (w : World) (l : List Nat) (e : Ending) (w' : World) : Prop :=
  ∃ A c, e = .returned (.slice A l.length c) ∧ l.length ≤ c ∧ RowAt w' A (l.map I) ∧ Below w.heap.size w w'
theorem I_snoc (L : List Nat) (n : Nat) : L.map I ++ [.int .i64 n] = (L ++ [n]).map I := by rw [List.map_append]; rfl
theorem revD_more {s : ByteArray} {k : Nat} (hk : k < s.size) : revD (s.data.toList.drop k) = revD (s.data.toList.drop (k + 1)) ++ [dv s[k]] := by
  rw [drop_byte s k hk]; unfold revD; simp

set_option maxHeartbeats 1000000 in
set_option maxRecDepth 100000 in
theorem rdigits_any (s : ByteArray) (w : World) (hd : ∀ c ∈ s.data.toList, isDig c = true) (hs : s.size ≤ 10000) :
    Calls Tryz.prog 69 #[.string s] w (DigPost w (revD s.data.toList)) := by
  obtain ⟨i0, hi, hz0, hz1, hz2⟩ := info_parts intInfo
  have HD := Lib.hid hd
  go_enter Tryz.func69, Tryz.ntmps69
  go_wp2_with fail
  go_loopw [3, 4] (fun v i wr => ∃ (k : Nat), i = .int .i64 ((k : Int) - 1) ∧ k ≤ s.size ∧ Below w.heap.size w wr ∧ Own w.heap.size 3 v ((revD (s.data.toList.drop k)).map I) wr) (fun _ i _ => (intOf i + 1).toNat)
  case atStart => exact ⟨s.size, rfl, Nat.le_refl _, Below.refl _ _, by rw [List.drop_of_length_le (by rw [← Lib.size_eq]; exact Nat.le_refl _)]; exact Own.nil _ _ _⟩
  case round =>
    obtain ⟨k, rfl, hk, hb, hown⟩ := hrel
    rcases Nat.eq_zero_or_pos k with rfl | hp
    · rw [List.drop_zero] at hown
      obtain ⟨A, c, rfl, hc, hr⟩ := hown.row.to (n := (revD s.data.toList).length) (by simp)
      clear hown
      go_wp2_with fail
      go_returns
      exact ⟨A, c, rfl, hc, hr, hb⟩
    · obtain ⟨j, rfl⟩ : ∃ j, k = j + 1 := ⟨k - 1, by omega⟩
      have hj : j < s.size := by omega
      have hdg := dig_bytes HD.out hj
      rw [isDig_iff] at hdg
      have HM := Lib.hid (revD_more hj)
      have hL : (revD (s.data.toList.drop (j + 1))).length = s.size - (j + 1) := by unfold revD; rw [List.length_reverse, List.length_map, List.length_drop, ← Lib.size_eq]
      generalize revD (s.data.toList.drop (j + 1)) = L at hown HM hL
      obtain ⟨x, hx⟩ : ∃ x, s[j].toNat = x := ⟨_, rfl⟩
      have HV : Hid (dv s[j] = x - 48) := by unfold Hid dv; rw [hx]
      rw [hx] at hdg
      obtain ⟨d1, d2⟩ := hdg
      have hml : (L.map I).length + 1 ≤ maxLen := by rw [List.length_map]; unfold maxLen; omega
      have hmb : ((L.map I).length + 1) * 8 ≤ 140737488355328 := by rw [List.length_map]; omega
      have j1 : ((j + 1 : Nat) : Int) - 1 = (j : Int) := by omega
      rw [j1]
      go_wp2_with (at_builtin; refine wpList_app1 rfl (.tmp 12) (.tmp 18) 72 rfl w.heap.size i0 _ 8 Tryz.underlying72 hi hz0 hz1 hz2 rfl _ (L.map I) rfl hown 1 rfl rfl hml hmb hb.size ?_; intro v' w3 hown4 _ hb4)
      go_roundw
      case rel => exact ⟨j, by go_num, by omega, hb.trans hb4, by rw [HM.out, HV.out, ← I_snoc]; have e : ((x - 48 : Nat) : Int) = (x : Int) - 48 := (by omega); rw [e]; exact hown4⟩
      case measure => simp [intOf] <;> omega

/- Walks of the reference of nat: compare. -/
open Go.RowKit
set_option linter.unusedVariables false

theorem dec_len {a b : Bs} (ha : okT a) (hb : okT b) (h : a.length < b.length) : decV a < decV b := by
  have h1 := decV_lt ha.2.1
  rcases Nat.lt_or_ge (decV a) (decV b) with h2 | h2
  · exact h2
  · exfalso
    have h3 := decT_mono h2
    rw [decT_decV ha, decT_decV hb] at h3
    omega
theorem dec_top {a b : Bs} (ha : ∀ c ∈ a, isDig c = true) (hb : ∀ c ∈ b, isDig c = true) (hlen : a.length = b.length) {k : Nat} (hk : k < a.length) (ht : a.take k = b.take k) (hlt : dv a[k] < dv (b[k]'(by omega))) : decV a < decV b := by
  have e1 : a = a.take k ++ a[k] :: a.drop (k + 1) := by rw [← List.drop_eq_getElem_cons hk, List.take_append_drop]
  have e2 : b = b.take k ++ b[k]'(by omega) :: b.drop (k + 1) := by rw [← List.drop_eq_getElem_cons (by omega), List.take_append_drop]
  have d1 := decV_lt (l := a.drop (k + 1)) fun c hc => ha c (List.mem_of_mem_drop hc)
  have d2 := decV_append (a.take k) (a[k] :: a.drop (k + 1))
  have d3 := decV_append (b.take k) (b[k]'(by omega) :: b.drop (k + 1))
  have d4 := decV_append [a[k]] (a.drop (k + 1))
  have d5 := decV_append [b[k]'(by omega)] (b.drop (k + 1))
  rw [← e1] at d2
  rw [← e2, ← ht] at d3
  simp only [List.cons_append, List.nil_append] at d4 d5
  have s1 : decV [a[k]] = dv a[k] := by simp [decV, valL]
  have s2 : decV [b[k]'(by omega)] = dv (b[k]'(by omega)) := by simp [decV, valL]
  have l1 : (a.drop (k + 1)).length = (b.drop (k + 1)).length := by rw [List.length_drop, List.length_drop, hlen]
  rw [d4, s1] at d2
  rw [d5, s2] at d3
  rw [d2, d3]
  simp only [List.length_cons]
  rw [← l1]
  have hm : 10 ^ (a.drop (k + 1)).length * dv a[k] + 10 ^ (a.drop (k + 1)).length ≤ 10 ^ (a.drop (k + 1)).length * dv (b[k]'(by omega)) := by
    rw [← Nat.mul_succ]; exact Nat.mul_le_mul_left _ hlt
  omega
theorem byte_get {s : ByteArray} {k : Nat} (h : k < s.size) (h2 : k < s.data.toList.length) : s.data.toList[k] = s[k] := by
  have := drop_byte s k h
  rw [List.drop_eq_getElem_cons h2] at this
  injection this

set_option maxHeartbeats 1000000 in
set_option maxRecDepth 100000 in
theorem rcompare_any (a b : ByteArray) (w : World) (ha : okT a.data.toList) (hb : okT b.data.toList) (hsa : a.size ≤ 100000) (hsb : b.size ≤ 100000) :
    Calls Tryz.prog 66 #[.string a, .string b] w fun e w' => e = .returned (.int .i64 (cmpI (decV a.data.toList) (decV b.data.toList))) ∧ Below w.heap.size w w' := by
  have la := Lib.size_eq a
  have lb := Lib.size_eq b
  rcases Nat.lt_trichotomy a.size b.size with h | h | h
  · have HK := Lib.hid (cmpI_lt (dec_len ha hb (by omega)))
    clear la lb
    go_enter Tryz.func66, Tryz.ntmps66
    go_wp2_with fail
    go_returns
    exact ⟨by rw [HK.out]; rfl, Below.refl _ _⟩
  · have HEQ : Hid (a.data.toList = b.data.toList → cmpI (decV a.data.toList) (decV b.data.toList) = 0) := fun e => cmpI_eq (by rw [e])
    have HLT : Hid (∀ k (hk : k < a.size) (hk2 : k < b.size), a.data.toList.take k = b.data.toList.take k → (a[k].toNat < b[k].toNat → cmpI (decV a.data.toList) (decV b.data.toList) = -1) ∧ (b[k].toNat < a[k].toNat → cmpI (decV a.data.toList) (decV b.data.toList) = 1) ∧ (a[k].toNat = b[k].toNat → a.data.toList.take (k + 1) = b.data.toList.take (k + 1))) := by
      intro k hk hk2 ht
      have ka : k < a.data.toList.length := by omega
      have kb : k < b.data.toList.length := by omega
      have ga := byte_get hk ka
      have gb := byte_get hk2 kb
      have da := (isDig_iff _).1 (dig_bytes ha.2.1 hk)
      have db := (isDig_iff _).1 (dig_bytes hb.2.1 hk2)
      refine ⟨fun hl => cmpI_lt (dec_top ha.2.1 hb.2.1 (by omega) ka ht (by rw [ga, gb]; unfold dv; omega)), fun hl => cmpI_gt (dec_top hb.2.1 ha.2.1 (by omega) kb ht.symm (by rw [ga, gb]; unfold dv; omega)), fun he => ?_⟩
      rw [List.take_succ_eq_append_getElem ka, List.take_succ_eq_append_getElem kb, ht, ga, gb, UInt8.toNat_inj.1 he]
    clear ha hb la lb
    obtain ⟨N, hN⟩ : ∃ N, b.size = N := ⟨_, rfl⟩
    rw [hN] at h hsb
    clear hsa
    go_enter Tryz.func66, Tryz.ntmps66
    go_wp2_with fail
    go_loopw [4, 5] (fun _ i wr => ∃ (k : Nat), i = .int .i64 k ∧ k ≤ N ∧ Below w.heap.size w wr ∧ Hid (a.data.toList.take k = b.data.toList.take k)) (fun _ i _ => N - (intOf i).toNat)
    case atStart => exact ⟨0, rfl, by omega, Below.refl _ _, rfl⟩
    case round =>
      obtain ⟨k, rfl, hk, hb, H⟩ := hrel
      by_cases hlt : k < N
      · obtain ⟨h1, h2, h3⟩ := HLT.out k (by omega) (by omega) H.out
        have kb0 : (0 : Int) ≤ (k : Int) := by omega
        have kb1 : (k : Int) < (N : Int) := by omega
        have ka : k < a.size := by omega
        have kb : k < b.size := by omega
        obtain ⟨x, hx⟩ : ∃ x, a[k].toNat = x := ⟨_, rfl⟩
        obtain ⟨y, hy⟩ : ∃ y, b[k].toNat = y := ⟨_, rfl⟩
        rw [hx, hy] at h1 h2 h3
        rcases Nat.lt_trichotomy x y with hc | hc | hc
        · have HK := Lib.hid (h1 hc)
          have ci : (x : Int) < (y : Int) := by omega
          have cd : (((x : Nat) : Int) == ((y : Nat) : Int)) = false := beq_eq_false_iff_ne.2 (by omega)
          clear h1 h2 h3
          go_wp2_with fail
          go_quiet (fail)
          go_wp2_with fail
          go_quiet (fail)
          go_wp2_with fail
          go_returns
          exact ⟨by rw [HK.out]; rfl, ⟨hb.os, hb.tape, hb.output, hb.size, hb.block⟩⟩
        · have HN := Lib.hid (h3 hc)
          subst hc
          clear h1 h2 h3
          go_wp2_with fail
          go_quiet (fail)
          go_wp2_with fail
          go_roundw
          case rel => exact ⟨k + 1, by go_num, by omega, ⟨hb.os, hb.tape, hb.output, hb.size, hb.block⟩, HN⟩
          case measure => simp [intOf] <;> omega
        · have HK := Lib.hid (h2 hc)
          have ci : (y : Int) < (x : Int) := by omega
          have cd : (((x : Nat) : Int) == ((y : Nat) : Int)) = false := beq_eq_false_iff_ne.2 (by omega)
          have ce : decide ((x : Int) < (y : Int)) = false := decide_eq_false (by omega)
          clear h1 h2 h3
          go_wp2_with fail
          go_quiet (fail)
          go_wp2_with fail
          go_quiet (fail)
          go_wp2_with fail
          go_returns
          exact ⟨by rw [HK.out]; rfl, ⟨hb.os, hb.tape, hb.output, hb.size, hb.block⟩⟩
      · obtain rfl : k = N := by omega
        have HK : Hid (cmpI (decV a.data.toList) (decV b.data.toList) = 0) := HEQ.out (by
          have h := H.out
          rwa [List.take_of_length_le (by rw [← Lib.size_eq]; omega), List.take_of_length_le (by rw [← Lib.size_eq]; omega)] at h)
        go_wp2_with fail
        go_returns
        exact ⟨by rw [HK.out]; rfl, hb⟩
  · have HK := Lib.hid (cmpI_gt (dec_len hb ha (by omega)))
    clear la lb
    go_enter Tryz.func66, Tryz.ntmps66
    go_wp2_with fail
    go_returns
    exact ⟨by rw [HK.out]; rfl, Below.refl _ _⟩

/- Walks of the reference of nat: Cmp. -/
open Go.RowKit
set_option linter.unusedVariables false

set_option maxHeartbeats 1000000 in
set_option maxRecDepth 100000 in
theorem rcmp_any (a b : ByteArray) (w : World) (ha : a.size ≤ 9223372036854775807) (hb : b.size ≤ 9223372036854775807) :
    Calls Tryz.prog 87 #[.string a, .string b] w fun e w' => e = .returned (.int .i64 (natCmp a.data.toList b.data.toList)) ∧ Below w.heap.size w w' := by
  by_cases hok : okN a.data.toList = true ∧ okN b.data.toList = true
  · obtain ⟨hoa, hob⟩ := hok
    have HK : Hid (natCmp a.data.toList b.data.toList = cmpI (decV a.data.toList) (decV b.data.toList)) := by unfold Hid natCmp; rw [if_pos ⟨hoa, hob⟩]
    have va := fun W => rvalid_any a W ha
    have vb := fun W => rvalid_any b W hb
    have hc := fun W => rcompare_any a b W ((okN_iff _).1 hoa).1 ((okN_iff _).1 hob).1 (by have := okN_size hoa; omega) (by have := okN_size hob; omega)
    rw [hoa] at va
    rw [hob] at vb
    clear hoa hob
    go_enter Tryz.func87, Tryz.ntmps87
    go_wp2_with (first | (go_at_call_of 41 (Value.string a); refine (va _).mono ?_; rintro e w2 ⟨rfl, rfl⟩) | (go_at_call_of 41 (Value.string b); refine (vb _).mono ?_; rintro e w2 ⟨rfl, rfl⟩) | (go_at_call 66; refine (hc _).mono ?_; rintro e w3 ⟨rfl, hb3⟩))
    go_returns
    exact ⟨by rw [HK.out]; rfl, hb3⟩
  · refine (rcmp_bad a b w ha hb hok).mono ?_
    rintro e w' ⟨rfl, rfl⟩
    unfold natCmp
    rw [if_neg hok]
    exact ⟨rfl, Below.refl _ _⟩

/- Walks of the reference of nat: less. -/
open Go.RowKit
set_option linter.unusedVariables false

def lessF (a b c : Nat) : Nat × Nat := if a < b + c then (a + 10 - b - c, 1) else (a - b - c, 0)
theorem less_inv {x y : List Nat} (hx : ∀ d ∈ x, d < 10) (hy : ∀ d ∈ y, d < 10) : ∀ i,
    valL 10 (eachS lessF x y i).1 + valL 10 (y.take i) = valL 10 (x.take i) + 10 ^ i * (eachS lessF x y i).2 ∧ (∀ d ∈ (eachS lessF x y i).1, d < 10) ∧ (eachS lessF x y i).2 ≤ 1
  | 0 => ⟨rfl, (fun d hd => by cases hd), Nat.zero_le _⟩
  | i + 1 => by
    obtain ⟨h1, h2, h3⟩ := less_inv hx hy i
    have ha := getD_lt (by omega) hx i
    have hb := getD_lt (by omega) hy i
    have hlen := eachS_length lessF x y i
    simp only [eachS]
    rw [valL_snoc, hlen, valL_take, valL_take]
    generalize (eachS lessF x y i).2 = c at *
    generalize (eachS lessF x y i).1 = s at *
    generalize x.getD i 0 = a at *
    generalize y.getD i 0 = b at *
    have key : (lessF a b c).1 + b + c = a + 10 * (lessF a b c).2 ∧ (lessF a b c).1 < 10 ∧ (lessF a b c).2 ≤ 1 := by
      unfold lessF
      split <;> simp only [] <;> omega
    obtain ⟨k1, k2, k3⟩ := key
    refine ⟨?_, ?_, k3⟩
    · have e4 : 10 ^ i * (lessF a b c).1 + 10 ^ i * b + 10 ^ i * c = 10 ^ i * a + 10 ^ (i + 1) * (lessF a b c).2 := by
        rw [Nat.pow_succ, Nat.mul_assoc, ← Nat.mul_add, ← Nat.mul_add, ← Nat.mul_add, k1]
      omega
    · intro d hd
      rcases List.mem_append.1 hd with hd | hd
      · exact h2 d hd
      · rw [List.mem_singleton.1 hd]; exact k2
theorem less_val {x y : List Nat} (hx : ∀ d ∈ x, d < 10) (hy : ∀ d ∈ y, d < 10) (hl : y.length ≤ x.length) (hle : valL 10 y ≤ valL 10 x) :
    valL 10 (eachS lessF x y x.length).1 = valL 10 x - valL 10 y ∧ ∀ d ∈ (eachS lessF x y x.length).1, d < 10 := by
  obtain ⟨i1, i2, i3⟩ := less_inv hx hy x.length
  rw [List.take_length, List.take_of_length_le hl] at i1
  have hlt := valL_lt i2
  rw [eachS_length] at hlt
  have hz : (eachS lessF x y x.length).2 = 0 := by
    rcases (show (eachS lessF x y x.length).2 = 0 ∨ (eachS lessF x y x.length).2 = 1 by omega) with h | h
    · exact h
    · rw [h] at i1; omega
  rw [hz, Nat.mul_zero, Nat.add_zero] at i1
  exact ⟨by omega, i2⟩

set_option maxHeartbeats 2000000 in
set_option maxRecDepth 100000 in
theorem rless_any (A B : Option Addr) (c d : Nat) (x y : List Nat) (w : World) (hx : ∀ d ∈ x, d < 10) (hy : ∀ d ∈ y, d < 10) (hA : RowAt w A (x.map I)) (hB : RowAt w B (y.map I)) (hlx : x.length ≤ 100000) :
    Calls Tryz.prog 68 #[.slice A x.length c, .slice B y.length d] w (DigPost w (eachS lessF x y x.length).1) := by
  obtain ⟨i0, hi, hz0, hz1, hz2⟩ := info_parts intInfo
  have HX : Hid (∀ i, x.getD i 0 < 10) := fun i => getD_lt (by omega) hx i
  have HY : Hid (∀ i, y.getD i 0 < 10) := fun i => getD_lt (by omega) hy i
  have HI : Hid (∀ i, (eachS lessF x y i).2 ≤ 1) := fun i => (less_inv hx hy i).2.2
  have HL : Hid (∀ i, (eachS lessF x y i).1.length = i) := fun i => eachS_length _ _ _ i
  go_enter Tryz.func68, Tryz.ntmps68
  go_wp2_with fail
  go_loopw [5, 6, 7] (fun l cy i wr => ∃ (j0 : Nat), i = .int .i64 j0 ∧ j0 ≤ x.length ∧ cy = .int .i64 (eachS lessF x y j0).2 ∧ Below w.heap.size w wr ∧ Own w.heap.size 3 l ((eachS lessF x y j0).1.map I) wr) (fun _ _ i _ => x.length - (intOf i).toNat)
  case atStart => exact ⟨0, rfl, by omega, rfl, Below.refl _ _, Own.nil _ _ _⟩
  case round =>
    obtain ⟨k0, rfl, hk0, rfl, hb, hown⟩ := hrel
    by_cases hlt : k0 < x.length
    · have ca := fun W hr => rat_any A c x k0 W hr
      have cb := fun W hr => rat_any B d y k0 W hr
      have ra := hA.below hb
      have rb := hB.below hb
      have hS1 : (eachS lessF x y (k0 + 1)).1 = (eachS lessF x y k0).1 ++ [(lessF (x.getD k0 0) (y.getD k0 0) (eachS lessF x y k0).2).1] := rfl
      have hS2 : (eachS lessF x y (k0 + 1)).2 = (lessF (x.getD k0 0) (y.getD k0 0) (eachS lessF x y k0).2).2 := rfl
      have ha1 := HX.out k0
      have hb1 := HY.out k0
      have hq1 := HI.out k0
      have hlen := HL.out k0
      have HS1 := Lib.hid hS1
      have HS2 := Lib.hid hS2
      clear hS1 hS2
      generalize x.getD k0 0 = a at *
      generalize y.getD k0 0 = b at *
      generalize (eachS lessF x y k0).2 = q at *
      generalize (eachS lessF x y k0).1 = L at *
      have hml : (L.map I).length + 1 ≤ maxLen := by rw [List.length_map]; unfold maxLen; omega
      have hmb : ((L.map I).length + 1) * 8 ≤ 140737488355328 := by rw [List.length_map]; omega
      rcases Nat.lt_or_ge a (b + q) with hc | hc
      · have HF : Hid (lessF a b q = (a + 10 - b - q, 1)) := by unfold Hid lessF; rw [if_pos hc]
        go_wp2_with (first | (go_at_call_of 94 (Value.slice A x.length c); refine (ca _ ra).mono ?_; rintro e wx ⟨rfl, rfl⟩) | (go_at_call_of 94 (Value.slice B y.length d); refine (cb _ rb).mono ?_; rintro e wx ⟨rfl, rfl⟩) | (at_builtin; refine wpList_app1 rfl (.tmp 28) (.tmp 30) 72 rfl w.heap.size i0 _ 8 Tryz.underlying72 hi hz0 hz1 hz2 rfl _ (L.map I) rfl hown 1 rfl rfl hml hmb hb.size ?_; intro v' w3 hown4 _ hb4))
        go_roundw
        case rel => exact ⟨k0 + 1, by go_num, by omega, by rw [HS2.out, HF.out]; rfl, hb.trans hb4, by rw [HS1.out, HF.out, ← I_snoc]; have e : ((a + 10 - b - q : Nat) : Int) = (a : Int) - (b : Int) - (q : Int) + 10 := (by omega); rw [e]; exact hown4⟩
        case measure => simp [intOf] <;> omega
      · have HF : Hid (lessF a b q = (a - b - q, 0)) := by unfold Hid lessF; rw [if_neg (by omega)]
        go_wp2_with (first | (go_at_call_of 94 (Value.slice A x.length c); refine (ca _ ra).mono ?_; rintro e wx ⟨rfl, rfl⟩) | (go_at_call_of 94 (Value.slice B y.length d); refine (cb _ rb).mono ?_; rintro e wx ⟨rfl, rfl⟩) | (at_builtin; refine wpList_app1 rfl (.tmp 28) (.tmp 30) 72 rfl w.heap.size i0 _ 8 Tryz.underlying72 hi hz0 hz1 hz2 rfl _ (L.map I) rfl hown 1 rfl rfl hml hmb hb.size ?_; intro v' w3 hown4 _ hb4))
        go_roundw
        case rel => exact ⟨k0 + 1, by go_num, by omega, by rw [HS2.out, HF.out]; rfl, hb.trans hb4, by rw [HS1.out, HF.out, ← I_snoc]; have e : ((a - b - q : Nat) : Int) = (a : Int) - (b : Int) - (q : Int) := (by omega); rw [e]; exact hown4⟩
        case measure => simp [intOf] <;> omega
    · obtain rfl : k0 = x.length := by omega
      obtain ⟨A', c', rfl, hc', hr⟩ := hown.row.to (n := (eachS lessF x y x.length).1.length) (by simp)
      clear hown hA hB HX HY HI HL
      go_wp2_with fail
      go_returns
      exact ⟨A', c', rfl, hc', hr, hb⟩

/- Walks of the reference of nat: text. -/
open Go.RowKit
set_option linter.unusedVariables false

theorem text_low {l : List Nat} {n : Nat} (h : 1 < n) (hn : n ≤ l.length) (hz : l[n - 1] = 0) : valL 10 (l.take (n - 1)) = valL 10 (l.take n) := by
  obtain ⟨k, rfl⟩ : ∃ k, n = k + 1 := ⟨n - 1, by omega⟩
  simp only [Nat.add_sub_cancel] at hz ⊢
  rw [valL_take, List.getD_eq_getElem?_getD, List.getElem?_eq_getElem (by omega)]
  simp [hz]
theorem text_end {l : List Nat} {n : Nat} (hl : ∀ d ∈ l, d < 10) (h1 : 1 ≤ n) (hn : n ≤ l.length) (hv : valL 10 (l.take n) = valL 10 l) (ht : n = 1 ∨ l[n - 1] ≠ 0) : ((l.take n).reverse).map dc = decT (valL 10 l) := by
  have hlen : (l.take n).length = n := by rw [List.length_take]; omega
  by_cases h0 : valL 10 l = 0
  · rw [h0]
    rw [h0] at hv
    rcases ht with rfl | ht
    · cases l with
      | nil => simp at hn
      | cons x r =>
        simp [valL] at hv
        subst hv
        rfl
    · exfalso
      obtain ⟨k, rfl⟩ : ∃ k, n = k + 1 := ⟨n - 1, by omega⟩
      simp only [Nat.add_sub_cancel] at ht
      rw [valL_take, List.getD_eq_getElem?_getD, List.getElem?_eq_getElem (by omega)] at hv
      simp at hv
      exact ht ((Nat.mul_eq_zero.1 hv.2).resolve_left (Nat.ne_of_gt (Nat.pow_pos (by omega))))
  · rw [decT_pos h0]
    have hc : Canon (l.take n) := by
      intro x hx
      rw [List.getLast?_eq_getElem?, hlen] at hx
      rcases ht with rfl | ht
      · cases l with
        | nil => simp at hn
        | cons y r =>
          simp [valL] at hv hx
          intro e; exact h0 (by show y + 10 * valL 10 r = 0; omega)
      · rw [List.getElem?_take, if_pos (by omega), List.getElem?_eq_getElem (by omega)] at hx
        injection hx with hx
        rw [← hx]; exact ht
    have e := digL_valL (b := 10) (by omega) (l := l.take n) (fun d hd => hl d (List.mem_of_mem_take hd)) hc
    rw [hv] at e
    rw [e]
/-- the digits from k on, as they are written -/
def wrT (l : List Nat) (k : Nat) : Bs := ((l.drop k).reverse).map dc
theorem wrT_more {l : List Nat} {k : Nat} (hk : k < l.length) : wrT l k = wrT l (k + 1) ++ [dc l[k]] := by
  unfold wrT; rw [List.drop_eq_getElem_cons hk, List.reverse_cons, List.map_append]; rfl
theorem wrT_len (l : List Nat) (k : Nat) : (wrT l k).length = l.length - k := by unfold wrT; simp

set_option maxHeartbeats 2000000 in
set_option maxRecDepth 100000 in
theorem rtext_any (A : Option Addr) (c : Nat) (l : List Nat) (w : World) (hl : ∀ d ∈ l, d < 10) (hA : RowAt w A (l.map I)) (hm : l.length ≤ 100000) (hnil : l ≠ []) :
    Calls Tryz.prog 67 #[.slice A l.length c] w fun e w' => e = .returned (.string ⟨(decT (valL 10 l)).toArray⟩) ∧ Below w.heap.size w w' := by
  obtain ⟨i0, hi, hz0, hz1, hz2⟩ := info_parts byteInfo
  have HLT := Lib.hid hl
  have hpos := List.length_pos_iff.2 hnil
  obtain ⟨b, o, rfl, hbl, hcell⟩ := hA (by intro e; rw [List.map_eq_nil_iff] at e; exact hnil e)
  have hc : ∀ k (h : k < l.length), w.cell? ⟨b, o + k, none⟩ = some (.int .i64 l[k]) := fun k h => hcell k _ (getI h)
  have HC := Lib.hid hc
  clear hcell hA hc hl hnil
  go_enter Tryz.func67, Tryz.ntmps67
  go_wp2_with fail
  go_loopw [3] (fun n wr => ∃ (k : Nat), n = .int .i64 k ∧ 1 ≤ k ∧ k ≤ l.length ∧ w = wr ∧ Hid (valL 10 (l.take k) = valL 10 l)) (fun n _ => (intOf n).toNat)
  case atStart => exact ⟨l.length, rfl, by omega, by omega, rfl, by rw [Hid, List.take_length]⟩
  case round =>
    obtain ⟨n, rfl, hn1, hn2, rfl, HV⟩ := hrel
    have hcn := HC.out (n - 1) (by omega)
    obtain ⟨j, hj⟩ : ∃ j, n - 1 = j := ⟨_, rfl⟩
    have HJ := Lib.hid hj
    have hnl : n - 1 < l.length := by omega
    by_cases hgo : 1 < n ∧ l[n - 1] = 0
    · obtain ⟨hg1, hg2⟩ := hgo
      have HV2 := Lib.hid (text_low hg1 hn2 hg2)
      rw [hg2, hj] at hcn
      have ni : (1 : Int) < (n : Int) := by omega
      have nj : (n : Int) - 1 = (j : Int) := by omega
      have j0 : (0 : Int) ≤ (j : Int) := by omega
      have jl : (j : Int) < (l.length : Int) := by omega
      clear hg2 hj
      go_wp2_with fail
      go_roundw
      case rel => exact ⟨j, rfl, by have := HJ.out; omega, by have := HJ.out; omega, trivial, by have e := HV2.out; rw [HJ.out] at e; rw [Hid, e, HV.out]⟩
      case measure => have := HJ.out; simp [intOf]; omega
    · have hst : n = 1 ∨ l[n - 1] ≠ 0 := by
        by_cases h1 : n = 1
        · exact Or.inl h1
        · right; intro e; exact hgo ⟨by omega, e⟩
      have HE := Lib.hid (text_end HLT.out hn1 hn2 HV.out hst)
      have hTl : (l.take n).length = n := by rw [List.length_take]; omega
      have hTg : ∀ k (h : k < (l.take n).length), (l.take n)[k] < 10 ∧ w.cell? ⟨b, o + k, none⟩ = some (.int .i64 (l.take n)[k]) := fun k h => by
        rw [List.getElem_take]
        exact ⟨HLT.out _ (List.getElem_mem _), HC.out k (by omega)⟩
      have HTG := Lib.hid hTg
      obtain ⟨x, hx⟩ : ∃ x, l[n - 1] = x := ⟨_, rfl⟩
      rw [hx] at hcn hst
      rw [hj] at hcn
      have nj : (n : Int) - 1 = (j : Int) := by omega
      have j0 : (0 : Int) ≤ (j : Int) := by omega
      have jl : (j : Int) < (l.length : Int) := by omega
      have HST := Lib.hid hst
      clear hTg hx hgo HV hj hst
      generalize l.take n = T at *
      have hA2 : Below w.heap.size w w := Below.refl _ _
      rcases Nat.lt_or_ge 1 n with h1n | h1n
      · have hx0 : ¬ x = 0 := by
          rcases HST.out with h | h
          · omega
          · exact h
        have hxi : ((x : Int) == 0) = false := beq_eq_false_iff_ne.2 (by omega)
        have ni : (1 : Int) < (n : Int) := by omega
        go_wp2_with fail
        go_loopw [4, 5] (fun v i wr => ∃ (k : Nat), i = .int .i64 ((k : Int) - 1) ∧ k ≤ n ∧ Below w.heap.size w wr ∧ Own w.heap.size 5 v (Lib.byteCells (wrT T k)) wr) (fun _ i _ => (intOf i + 1).toNat)
        case atStart => exact ⟨n, by rw [nj], Nat.le_refl _, hA2, by rw [show wrT T n = [] from List.eq_nil_of_length_eq_zero (by rw [wrT_len]; omega)]; exact Own.nil _ _ _⟩
        case round =>
          obtain ⟨k, rfl, hk, hb, hown⟩ := hrel
          rcases Nat.eq_zero_or_pos k with rfl | hp
          · have hw : wrT T 0 = decT (valL 10 l) := HE.out
            rw [hw] at hown
            have hlen : (decT (valL 10 l)).length = n := by rw [← hw, wrT_len]; omega
            obtain ⟨A', c', rfl, hc', hr⟩ := hown.row.to (n := n) (by rw [Lib.byteCells_length, hlen])
            have hcv := own_string (P := Tryz.prog) (src := 70) (dst := 9) Tryz.underlying70 Tryz.underlying5 Tryz.underlying9 hown
            have hnb : ((n : Int) == 0) = false := beq_eq_false_iff_ne.2 (by omega)
            clear hr hown hw hlen
            go_wp2_with fail
            go_returns
            exact ⟨rfl, hb⟩
          · obtain ⟨q, rfl⟩ : ∃ q, k = q + 1 := ⟨k - 1, by omega⟩
            obtain ⟨hd1, hcq⟩ := HTG.out q (by omega)
            have hcq2 := (hb.cell (p := ⟨b, o + q, none⟩) hbl).trans hcq
            have HM := Lib.hid (wrT_more (l := T) (k := q) (by omega))
            have hwl := wrT_len T (q + 1)
            obtain ⟨y, hy⟩ : ∃ y, T[q]'(by omega) = y := ⟨_, rfl⟩
            rw [hy] at hcq2 hd1 HM
            have HDC := Lib.hid (dc_toNat hd1)
            have hml : (Lib.byteCells (wrT T (q + 1))).length + 1 ≤ maxLen := by rw [Lib.byteCells_length]; unfold maxLen; omega
            have hmb : ((Lib.byteCells (wrT T (q + 1))).length + 1) * 1 ≤ 140737488355328 := by rw [Lib.byteCells_length]; omega
            have wy : IntKind.u8.wrap (48 + (y : Int)) = 48 + (y : Int) := by rw [IntKind.wrap_u8]; omega
            have q1 : ((q + 1 : Nat) : Int) - 1 = (q : Int) := by omega
            have q2 : (q : Int) < (l.length : Int) := by omega
            have q0 : (0 : Int) ≤ (q : Int) := by omega
            rw [q1]
            clear hcq hy hwl
            go_wp2_with (at_builtin; refine wpList_app1 rfl (.tmp 26) (.tmp 33) 70 rfl w.heap.size i0 _ 1 Tryz.underlying70 hi hz0 hz1 hz2 rfl _ (Lib.byteCells (wrT T (q + 1))) rfl hown 1 rfl rfl hml hmb hb.size ?_; intro v' w3 hown4 _ hb4)
            go_roundw
            case rel =>
              refine ⟨q, by go_num, by omega, hb.trans hb4, ?_⟩
              rw [HM.out, ← byteCells_snoc1, HDC.out]
              have e : ((48 + y : Nat) : Int) = 48 + (y : Int) := by omega
              rw [e]; exact hown4
            case measure => simp [intOf] <;> omega
      · have ni : decide ((1 : Int) < (n : Int)) = false := decide_eq_false (by omega)
        have n1 : (n : Int) ≤ 1 := by omega
        go_wp2_with fail
        go_loopw [4, 5] (fun v i wr => ∃ (k : Nat), i = .int .i64 ((k : Int) - 1) ∧ k ≤ n ∧ Below w.heap.size w wr ∧ Own w.heap.size 5 v (Lib.byteCells (wrT T k)) wr) (fun _ i _ => (intOf i + 1).toNat)
        case atStart => exact ⟨n, by rw [nj], Nat.le_refl _, hA2, by rw [show wrT T n = [] from List.eq_nil_of_length_eq_zero (by rw [wrT_len]; omega)]; exact Own.nil _ _ _⟩
        case round =>
          obtain ⟨k, rfl, hk, hb, hown⟩ := hrel
          rcases Nat.eq_zero_or_pos k with rfl | hp
          · have hw : wrT T 0 = decT (valL 10 l) := HE.out
            rw [hw] at hown
            have hlen : (decT (valL 10 l)).length = n := by rw [← hw, wrT_len]; omega
            obtain ⟨A', c', rfl, hc', hr⟩ := hown.row.to (n := n) (by rw [Lib.byteCells_length, hlen])
            have hcv := own_string (P := Tryz.prog) (src := 70) (dst := 9) Tryz.underlying70 Tryz.underlying5 Tryz.underlying9 hown
            have hnb : ((n : Int) == 0) = false := beq_eq_false_iff_ne.2 (by omega)
            clear hr hown hw hlen
            go_wp2_with fail
            go_returns
            exact ⟨rfl, hb⟩
          · obtain ⟨q, rfl⟩ : ∃ q, k = q + 1 := ⟨k - 1, by omega⟩
            obtain ⟨hd1, hcq⟩ := HTG.out q (by omega)
            have hcq2 := (hb.cell (p := ⟨b, o + q, none⟩) hbl).trans hcq
            have HM := Lib.hid (wrT_more (l := T) (k := q) (by omega))
            have hwl := wrT_len T (q + 1)
            obtain ⟨y, hy⟩ : ∃ y, T[q]'(by omega) = y := ⟨_, rfl⟩
            rw [hy] at hcq2 hd1 HM
            have HDC := Lib.hid (dc_toNat hd1)
            have hml : (Lib.byteCells (wrT T (q + 1))).length + 1 ≤ maxLen := by rw [Lib.byteCells_length]; unfold maxLen; omega
            have hmb : ((Lib.byteCells (wrT T (q + 1))).length + 1) * 1 ≤ 140737488355328 := by rw [Lib.byteCells_length]; omega
            have wy : IntKind.u8.wrap (48 + (y : Int)) = 48 + (y : Int) := by rw [IntKind.wrap_u8]; omega
            have q1 : ((q + 1 : Nat) : Int) - 1 = (q : Int) := by omega
            have q2 : (q : Int) < (l.length : Int) := by omega
            have q0 : (0 : Int) ≤ (q : Int) := by omega
            rw [q1]
            clear hcq hy hwl
            go_wp2_with (at_builtin; refine wpList_app1 rfl (.tmp 26) (.tmp 33) 70 rfl w.heap.size i0 _ 1 Tryz.underlying70 hi hz0 hz1 hz2 rfl _ (Lib.byteCells (wrT T (q + 1))) rfl hown 1 rfl rfl hml hmb hb.size ?_; intro v' w3 hown4 _ hb4)
            go_roundw
            case rel =>
              refine ⟨q, by go_num, by omega, hb.trans hb4, ?_⟩
              rw [HM.out, ← byteCells_snoc1, HDC.out]
              have e : ((48 + y : Nat) : Int) = 48 + (y : Int) := by omega
              rw [e]; exact hown4
            case measure => simp [intOf] <;> omega

/- Walks of the reference of nat: Add and Sub. -/
open Go.RowKit
set_option linter.unusedVariables false

def addF (a b c : Nat) : Nat × Nat := ((a + b + c) % 10, (a + b + c) / 10)
theorem addF_inv {x y : List Nat} (hx : ∀ d ∈ x, d < 10) (hy : ∀ d ∈ y, d < 10) : ∀ i,
    valL 10 (eachS addF x y i).1 + 10 ^ i * (eachS addF x y i).2 = valL 10 (x.take i) + valL 10 (y.take i) ∧ (∀ d ∈ (eachS addF x y i).1, d < 10) ∧ (eachS addF x y i).2 ≤ 1
  | 0 => ⟨rfl, (fun d hd => by cases hd), Nat.zero_le _⟩
  | i + 1 => by
    obtain ⟨h1, h2, h3⟩ := addF_inv hx hy i
    have ha := getD_lt (by omega) hx i
    have hb := getD_lt (by omega) hy i
    have hlen := eachS_length addF x y i
    simp only [eachS]
    rw [valL_snoc, hlen, valL_take, valL_take]
    generalize (eachS addF x y i).2 = c at *
    generalize (eachS addF x y i).1 = s at *
    generalize x.getD i 0 = a at *
    generalize y.getD i 0 = b at *
    refine ⟨?_, ?_, ?_⟩
    · unfold addF
      simp only []
      have e := Nat.mod_add_div (a + b + c) 10
      have e2 : 10 ^ i * ((a + b + c) % 10) + 10 ^ (i + 1) * ((a + b + c) / 10) = 10 ^ i * (a + b + c) := by
        rw [Nat.pow_succ, Nat.mul_assoc, ← Nat.mul_add, e]
      rw [Nat.mul_add, Nat.mul_add] at e2
      omega
    · intro d hd
      rcases List.mem_append.1 hd with hd | hd
      · exact h2 d hd
      · rw [List.mem_singleton.1 hd]; exact Nat.mod_lt _ (by omega)
    · unfold addF
      simp only []
      omega
theorem addF_val {x y : List Nat} (hx : ∀ d ∈ x, d < 10) (hy : ∀ d ∈ y, d < 10) {n : Nat} (h1 : x.length ≤ n) (h2 : y.length ≤ n) :
    valL 10 (eachS addF x y (n + 1)).1 = valL 10 x + valL 10 y ∧ ∀ d ∈ (eachS addF x y (n + 1)).1, d < 10 := by
  obtain ⟨i1, i2, i3⟩ := addF_inv hx hy (n + 1)
  obtain ⟨_, _, j3⟩ := addF_inv hx hy n
  rw [List.take_of_length_le (by omega), List.take_of_length_le (by omega)] at i1
  have hz : (eachS addF x y (n + 1)).2 = 0 := by
    simp only [eachS]
    rw [getD_far h1, getD_far h2]
    generalize (eachS addF x y n).2 = c at j3 ⊢
    unfold addF
    simp only []
    omega
  rw [hz, Nat.mul_zero, Nat.add_zero] at i1
  exact ⟨i1, i2⟩
theorem revD_lt {l : Bs} (h : ∀ c ∈ l, isDig c = true) : ∀ d ∈ revD l, d < 10 := by
  intro d hd
  unfold revD at hd
  rw [List.mem_reverse, List.mem_map] at hd
  obtain ⟨c, hc, rfl⟩ := hd
  exact dv_lt (h c hc)
theorem revD_len (l : Bs) : (revD l).length = l.length := by unfold revD; simp
theorem limN_eq (n : Nat) (F : ByteArray) (hF : (⟨(decT n).toArray⟩ : ByteArray) = F) :
    (if 1000 < F.size then Value.tuple #[.string ⟨#[]⟩, .int .i64 2] else .tuple #[.string F, .int .i64 0]) = .tuple #[.string ⟨(limN n).1.toArray⟩, .int .i64 (limN n).2] := by
  have hs : F.size = (decT n).length := by rw [← hF, Lib.size_eq]
  rw [hs]
  unfold limN
  split
  · rfl
  · rw [← hF]; rfl

set_option maxHeartbeats 2000000 in
set_option maxRecDepth 100000 in
theorem radd_any (a b : ByteArray) (w : World) (ha : a.size ≤ 9223372036854775807) (hb : b.size ≤ 9223372036854775807) :
    Calls Tryz.prog 86 #[.string a, .string b] w (TxtPost w (natAdd a.data.toList b.data.toList)) := by
  by_cases hok : okN a.data.toList = true ∧ okN b.data.toList = true
  · obtain ⟨hoa, hob⟩ := hok
    obtain ⟨i0, hi, hz0, hz1, hz2⟩ := info_parts intInfo
    have HK : Hid (natAdd a.data.toList b.data.toList = limN (decV a.data.toList + decV b.data.toList)) := by unfold Hid natAdd; rw [if_pos ⟨hoa, hob⟩]
    have va := fun W => rvalid_any a W ha
    have vb := fun W => rvalid_any b W hb
    rw [hoa] at va
    rw [hob] at vb
    have sa := okN_size hoa
    have sb := okN_size hob
    have da := fun W => rdigits_any a W (okN_digs hoa) (by omega)
    have db := fun W => rdigits_any b W (okN_digs hob) (by omega)
    have hxl := revD_lt (okN_digs hoa)
    have hyl := revD_lt (okN_digs hob)
    have hxn : (revD a.data.toList).length ≤ 1000 := by rw [revD_len, ← Lib.size_eq]; omega
    have hyn : (revD b.data.toList).length ≤ 1000 := by rw [revD_len, ← Lib.size_eq]; omega
    have vx := revD_val a.data.toList
    have vy := revD_val b.data.toList
    generalize decV a.data.toList = m at *
    generalize decV b.data.toList = n at *
    clear hoa hob
    generalize revD a.data.toList = x at *
    generalize revD b.data.toList = y at *
    have hA : Below w.heap.size w w := Below.refl _ _
    have HX : Hid (∀ i, x.getD i 0 < 10) := fun i => getD_lt (by omega) hxl i
    have HY : Hid (∀ i, y.getD i 0 < 10) := fun i => getD_lt (by omega) hyl i
    have HI : Hid (∀ i, (eachS addF x y i).2 ≤ 1) := fun i => (addF_inv hxl hyl i).2.2
    have HL : Hid (∀ i, (eachS addF x y i).1.length = i) := fun i => eachS_length _ _ _ i
    have HV := Lib.hid (addF_val hxl hyl (n := max x.length y.length) (Nat.le_max_left _ _) (Nat.le_max_right _ _))
    rw [vx, vy] at HV
    obtain ⟨M, hM⟩ : ∃ M, max x.length y.length = M := ⟨_, rfl⟩
    have hMx : x.length ≤ M := by omega
    have hMy : y.length ≤ M := by omega
    have hMe : M ≤ x.length ∨ M ≤ y.length := by omega
    rw [hM] at HV
    clear hM vx vy hxl hyl
    go_enter Tryz.func86, Tryz.ntmps86
    go_wp2_with (first | (go_at_call_of 41 (Value.string a); refine (va _).mono ?_; rintro e w2 ⟨rfl, rfl⟩) | (go_at_call_of 41 (Value.string b); refine (vb _).mono ?_; rintro e w2 ⟨rfl, rfl⟩))
    refine (da _).mono ?_
    rintro e w1 ⟨A1, c1, rfl, h1, r1, b1⟩
    have hA1 := bstep hA b1
    go_wp2_with fail
    refine (db _).mono ?_
    rintro e w2 ⟨A2, c2, rfl, h2, r2, b2⟩
    have hA2 := bstep hA1 b2
    have r1' := r1.below b2
    clear r1 b1 b2 hA hA1 va vb da db
    go_wp2_with fail
    go_loopw [8, 9, 10] (fun l cy i wr => ∃ (j0 : Nat), i = .int .i64 j0 ∧ j0 ≤ M + 1 ∧ cy = .int .i64 (eachS addF x y j0).2 ∧ Below w2.heap.size w2 wr ∧ Own w2.heap.size 3 l ((eachS addF x y j0).1.map I) wr) (fun _ _ i _ => M + 1 - (intOf i).toNat)
    case atStart => exact ⟨0, rfl, by omega, rfl, Below.refl _ _, Own.nil _ _ _⟩
    case round =>
      obtain ⟨k0, rfl, hk0, rfl, hb, hown⟩ := hrel
      by_cases hlt : k0 ≤ M
      · have ca := fun W hr => rat_any A1 c1 x k0 W hr
        have cb := fun W hr => rat_any A2 c2 y k0 W hr
        have ra := r1'.below hb
        have rb := r2.below hb
        have hS1 : (eachS addF x y (k0 + 1)).1 = (eachS addF x y k0).1 ++ [(x.getD k0 0 + y.getD k0 0 + (eachS addF x y k0).2) % 10] := rfl
        have hS2 : (eachS addF x y (k0 + 1)).2 = (x.getD k0 0 + y.getD k0 0 + (eachS addF x y k0).2) / 10 := rfl
        have ha1 := HX.out k0
        have hb1 := HY.out k0
        have hq1 := HI.out k0
        have hlen := HL.out k0
        have HS1 := Lib.hid hS1
        have HS2 := Lib.hid hS2
        clear hS1 hS2
        generalize x.getD k0 0 = a at *
        generalize y.getD k0 0 = b at *
        generalize (eachS addF x y k0).2 = q at *
        generalize (eachS addF x y k0).1 = L at *
        have hml : (L.map I).length + 1 ≤ maxLen := by rw [List.length_map]; unfold maxLen; omega
        have hmb : ((L.map I).length + 1) * 8 ≤ 140737488355328 := by rw [List.length_map]; omega
        rcases Nat.lt_or_ge x.length k0 with hc | hc
        · have k1 : decide ((k0 : Int) ≤ (x.length : Int)) = false := decide_eq_false (by omega)
          have k1' : (x.length : Int) < (k0 : Int) := by omega
          have k2 : (k0 : Int) ≤ (y.length : Int) := by omega
          go_wp2_with (first | (go_at_call_of 94 (Value.slice A1 x.length c1); refine (ca _ ra).mono ?_; rintro e wx ⟨rfl, rfl⟩) | (go_at_call_of 94 (Value.slice A2 y.length c2); refine (cb _ rb).mono ?_; rintro e wx ⟨rfl, rfl⟩) | (at_builtin; refine wpList_app1 rfl (.tmp 45) (.tmp 48) 72 rfl w2.heap.size i0 _ 8 Tryz.underlying72 hi hz0 hz1 hz2 rfl _ (L.map I) rfl hown 1 rfl rfl hml hmb hb.size ?_; intro v' w3 hown4 _ hb4))
          go_roundw
          case rel => exact ⟨k0 + 1, by go_num, by omega, by rw [HS2.out]; simp, hb.trans hb4, by rw [HS1.out, ← I_snoc]; simpa using hown4⟩
          case measure => simp [intOf] <;> omega
        · have k2 : (k0 : Int) ≤ (x.length : Int) := by omega
          go_wp2_with (first | (go_at_call_of 94 (Value.slice A1 x.length c1); refine (ca _ ra).mono ?_; rintro e wx ⟨rfl, rfl⟩) | (go_at_call_of 94 (Value.slice A2 y.length c2); refine (cb _ rb).mono ?_; rintro e wx ⟨rfl, rfl⟩) | (at_builtin; refine wpList_app1 rfl (.tmp 45) (.tmp 48) 72 rfl w2.heap.size i0 _ 8 Tryz.underlying72 hi hz0 hz1 hz2 rfl _ (L.map I) rfl hown 1 rfl rfl hml hmb hb.size ?_; intro v' w3 hown4 _ hb4))
          go_roundw
          case rel => exact ⟨k0 + 1, by go_num, by omega, by rw [HS2.out]; simp, hb.trans hb4, by rw [HS1.out, ← I_snoc]; simpa using hown4⟩
          case measure => simp [intOf] <;> omega
      · obtain rfl : k0 = M + 1 := by omega
        obtain ⟨hv1, hv2⟩ := HV.out
        have hln := HL.out (M + 1)
        obtain ⟨A', c', rfl, hc', hr⟩ := hown.row.to (n := (eachS addF x y (M + 1)).1.length) (by simp)
        have ht := rtext_any A' c' _ wr hv2 hr (by rw [hln]; omega) (by intro e; rw [e] at hln; simp at hln)
        rw [hv1] at ht
        obtain ⟨F, hF⟩ : ∃ F : ByteArray, (⟨(decT (m + n)).toArray⟩ : ByteArray) = F := ⟨_, rfl⟩
        rw [hF] at ht
        have hl := fun W => rlimited_any F W
        rw [limN_eq _ F hF] at hl
        have hx1 : (x.length : Int) < ((M + 1 : Nat) : Int) := by omega
        have hy1 : (y.length : Int) < ((M + 1 : Nat) : Int) := by omega
        have kx : decide (((M + 1 : Nat) : Int) ≤ (x.length : Int)) = false := decide_eq_false (by omega)
        have ky : decide (((M + 1 : Nat) : Int) ≤ (y.length : Int)) = false := decide_eq_false (by omega)
        have hA3 := bstep hA2 hb
        clear hown HX HY HI HL HV hv1 hv2 hr hF hln
        generalize (eachS addF x y (M + 1)).1.length = LN at *
        generalize M + 1 = M1 at *
        go_wp2_with (first
          | (go_at_call 67; refine ht.mono ?_; rintro e w5 ⟨rfl, b5⟩; have hA5 := bstep hA3 b5)
          | (go_at_call 111; refine (hl _).mono ?_; rintro e w6 ⟨rfl, rfl⟩))
        go_returns
        unfold TxtPost
        rw [HK.out]
        exact ⟨rfl, hA5⟩
  · refine (radd_bad a b w ha hb hok).mono ?_
    rintro e w' ⟨rfl, rfl⟩
    unfold TxtPost natAdd
    rw [if_neg hok]
    exact ⟨rfl, Below.refl _ _⟩

/- Walks of the reference of nat: Sub. -/
open Go.RowKit
set_option linter.unusedVariables false

theorem len_of_le {a b : Bs} (ha : okT a) (hb : okT b) (h : decV b ≤ decV a) : b.length ≤ a.length := by
  have := decT_mono h
  rwa [decT_decV ha, decT_decV hb] at this
/-- the difference of two texts, as the reference computes it -/
theorem less_dec {a b : Bs} (ha : okT a) (hb : okT b) (h : decV b ≤ decV a) :
    valL 10 (eachS lessF (revD a) (revD b) (revD a).length).1 = decV a - decV b ∧ (∀ d ∈ (eachS lessF (revD a) (revD b) (revD a).length).1, d < 10) ∧ (eachS lessF (revD a) (revD b) (revD a).length).1 ≠ [] := by
  have h1 := less_val (revD_lt ha.2.1) (revD_lt hb.2.1) (by rw [revD_len, revD_len]; exact len_of_le ha hb h) (by rw [revD_val, revD_val]; exact h)
  rw [revD_val, revD_val] at h1
  refine ⟨h1.1, h1.2, ?_⟩
  intro e
  have := eachS_length lessF (revD a) (revD b) (revD a).length
  rw [e, revD_len] at this
  exact ha.1 (List.eq_nil_of_length_eq_zero this.symm)

set_option maxHeartbeats 2000000 in
set_option maxRecDepth 100000 in
theorem rsub_any (a b : ByteArray) (w : World) (ha : a.size ≤ 9223372036854775807) (hb : b.size ≤ 9223372036854775807) :
    Calls Tryz.prog 88 #[.string a, .string b] w (TxtPost w (natSub a.data.toList b.data.toList)) := by
  by_cases hok : okN a.data.toList = true ∧ okN b.data.toList = true
  · obtain ⟨hoa, hob⟩ := hok
    have HK : Hid (natSub a.data.toList b.data.toList = if decV a.data.toList < decV b.data.toList then ([], 4) else (decT (decV a.data.toList - decV b.data.toList), 0)) := by unfold Hid natSub; rw [if_pos ⟨hoa, hob⟩]
    have va := fun W => rvalid_any a W ha
    have vb := fun W => rvalid_any b W hb
    rw [hoa] at va
    rw [hob] at vb
    have sa := okN_size hoa
    have sb := okN_size hob
    have ta := ((okN_iff _).1 hoa).1
    have tb := ((okN_iff _).1 hob).1
    have hcm := fun W => rcompare_any a b W ta tb (by omega) (by omega)
    have hA : Below w.heap.size w w := Below.refl _ _
    by_cases hlt : decV a.data.toList < decV b.data.toList
    · have HK2 : Hid (natSub a.data.toList b.data.toList = ([], 4)) := by rw [Hid, HK.out, if_pos hlt]
      rw [cmpI_lt hlt] at hcm
      clear hlt HK ta tb hoa hob
      go_enter Tryz.func88, Tryz.ntmps88
      go_wp2_with (first | (go_at_call_of 41 (Value.string a); refine (va _).mono ?_; rintro e w2 ⟨rfl, rfl⟩) | (go_at_call_of 41 (Value.string b); refine (vb _).mono ?_; rintro e w2 ⟨rfl, rfl⟩) | (go_at_call 66; refine (hcm _).mono ?_; rintro e w2 ⟨rfl, b1⟩))
      go_returns
      unfold TxtPost
      rw [HK2.out]
      exact ⟨rfl, b1⟩
    · have HK2 : Hid (natSub a.data.toList b.data.toList = (decT (decV a.data.toList - decV b.data.toList), 0)) := by rw [Hid, HK.out, if_neg hlt]
      have hge : ¬ cmpI (decV a.data.toList) (decV b.data.toList) < 0 := by rw [cmpI_neg]; exact hlt
      obtain ⟨hv1, hv2, hv3⟩ := less_dec ta tb (by omega)
      have hxl := revD_lt ta.2.1
      have hyl := revD_lt tb.2.1
      have da := fun W => rdigits_any a W (okN_digs hoa) (by omega)
      have db := fun W => rdigits_any b W (okN_digs hob) (by omega)
      have hxn : (revD a.data.toList).length ≤ 1000 := by rw [revD_len, ← Lib.size_eq]; omega
      have hls := eachS_length lessF (revD a.data.toList) (revD b.data.toList) (revD a.data.toList).length
      have le := fun A B c d W h1 h2 => rless_any A B c d (revD a.data.toList) (revD b.data.toList) W hxl hyl h1 h2 (by omega)
      generalize revD a.data.toList = x at *
      generalize revD b.data.toList = y at *
      generalize (eachS lessF x y x.length).1 = z at *
      have HZ1 := Lib.hid hv1
      have HZ2 := Lib.hid hv2
      have hzn : z.length ≤ 1000 := by omega
      have tx := fun A c W h => rtext_any A c z W hv2 h (by omega) hv3
      rw [hv1] at tx
      obtain ⟨F, hF⟩ : ∃ F : ByteArray, (⟨(decT (decV a.data.toList - decV b.data.toList)).toArray⟩ : ByteArray) = F := ⟨_, rfl⟩
      rw [hF] at tx
      have HF := Lib.hid hF
      obtain ⟨cc, hcc⟩ : ∃ cc, cmpI (decV a.data.toList) (decV b.data.toList) = cc := ⟨_, rfl⟩
      rw [hcc] at hcm hge
      have hge0 : 0 ≤ cc := by omega
      clear hlt HK ta tb hoa hob hv1 hv2 hv3 hxl hyl hls hxn hF hcc hge
      go_enter Tryz.func88, Tryz.ntmps88
      go_wp2_with (first | (go_at_call_of 41 (Value.string a); refine (va _).mono ?_; rintro e w2 ⟨rfl, rfl⟩) | (go_at_call_of 41 (Value.string b); refine (vb _).mono ?_; rintro e w2 ⟨rfl, rfl⟩) | (go_at_call 66; refine (hcm _).mono ?_; rintro e w1 ⟨rfl, b1⟩))
      refine (da _).mono ?_
      rintro e w2 ⟨A1, c1, rfl, h1, r1, b2⟩
      have hA2 := bstep b1 b2
      go_wp2_with fail
      refine (db _).mono ?_
      rintro e w3 ⟨A2, c2, rfl, h2, r2, b3⟩
      have hA3 := bstep hA2 b3
      go_wp2_with fail
      refine (le _ _ _ _ _ (r1.below b3) r2).mono ?_
      rintro e w4 ⟨A3, c3, rfl, h3, r3, b4⟩
      have hA4 := bstep hA3 b4
      go_wp2_with fail
      refine (tx _ _ _ r3).mono ?_
      rintro e w5 ⟨rfl, b5⟩
      have hA5 := bstep hA4 b5
      go_wp2_with fail
      go_returns
      unfold TxtPost
      rw [HK2.out]
      show _ = Ending.returned (.tuple #[.string ⟨(decT (decV a.data.toList - decV b.data.toList)).toArray⟩, _]) ∧ _
      rw [HF.out]
      exact ⟨rfl, hA5⟩
  · refine (rsub_bad a b w ha hb hok).mono ?_
    rintro e w' ⟨rfl, rfl⟩
    unfold TxtPost natSub
    rw [if_neg hok]
    exact ⟨rfl, Below.refl _ _⟩

/- Walks of the reference of nat: Mul. -/
open Go.RowKit
set_option linter.unusedVariables false

/-- a row of digits that the call itself has made -/
def MadeI (B g n : Nat) (L : List Nat) (w : World) : Prop := L.length = n ∧ w.ownsRow B 3 1 (.slice (some ⟨g, 0, none⟩) n n) n (L.map I)
theorem MadeI.cell {B g n : Nat} {L : List Nat} {w : World} (h : MadeI B g n L w) {j : Nat} (hj : j < L.length) : w.cell? ⟨g, j, none⟩ = some (.int .i64 L[j]) := by
  have hn : j < n := by have := h.1; omega
  rcases h.2.2 with ⟨h', _⟩ | ⟨g', cap', cur, h', _, hg, _, _, _, htake⟩
  · simp at h'
  · simp only [Value.slice.injEq, Option.some.injEq, Addr.mk.injEq, and_true, true_and] at h'
    obtain ⟨rfl, rfl⟩ := h'
    rw [cell_of_row w g j cur 3 (0, 0) hg]
    have h2 : (L.map I)[j]? = some (I L[j]) := getI hj
    rw [← htake, List.getElem?_take, if_pos (by omega)] at h2
    simp only [Array.getElem?_toList] at h2
    exact h2
theorem MadeI.frozen {B g n : Nat} {L : List Nat} {w : World} (h : MadeI B g n L w) (j : Nat) : w.frozen? ⟨g, j, none⟩ = false := World.ownsRow.frozenAt h.2 j
theorem MadeI.row {B g n : Nat} {L : List Nat} {w : World} (h : MadeI B g n L w) : RowAt w (some ⟨g, 0, none⟩) (L.map I) := fun hne => by
  have hp : 0 < L.length := List.length_pos_iff.2 (fun e => hne (by rw [e]; rfl))
  refine ⟨g, 0, rfl, cell_lt (h.cell hp), fun j u hu => ?_⟩
  rw [Nat.zero_add]
  rcases Nat.lt_or_ge j L.length with hj | hj
  · rw [getI hj] at hu
    injection hu with hu
    rw [← hu]
    exact h.cell hj
  · rw [List.getElem?_eq_none (by rw [List.length_map]; exact hj)] at hu; cases hu
theorem MadeI.store {B g n : Nat} {L : List Nat} {w : World} (h : MadeI B g n L w) (j v : Nat) : MadeI B g n (L.set j v) (w.setCell ⟨g, j, none⟩ (.int .i64 v)) := by
  refine ⟨by rw [List.length_set]; exact h.1, ?_⟩
  rw [List.map_set]
  exact (World.ownsRow.stored h.2 j (I v)).1
theorem rat_same (A : Option Addr) (c : Nat) (l : List Nat) (i : Nat) (w : World) (hrow : RowAt w A (l.map I)) :
    Calls Tryz.prog 94 #[.slice A l.length c, .int .i64 i] w fun e w' => e = .returned (.int .i64 (l.getD i 0 : Nat)) ∧ w' = w :=
  (rat_any A c l i w hrow).mono fun e w' h => ⟨h.1, h.2.symm⟩
theorem RowAt.drewN {w : World} {A : Option Addr} {cs : List Value} (h : RowAt w A cs) (n : Nat) : RowAt (w.drewN n) A cs := fun hne => by
  obtain ⟨b, o, e, hlt, hcell⟩ := h hne
  exact ⟨b, o, e, hlt, hcell⟩

set_option maxHeartbeats 2000000 in
set_option maxRecDepth 100000 in
theorem rmul_any (a b : ByteArray) (w : World) (ha : a.size ≤ 9223372036854775807) (hb : b.size ≤ 9223372036854775807) :
    Calls Tryz.prog 89 #[.string a, .string b] w (TxtPost w (natMul a.data.toList b.data.toList)) := by
  by_cases hok : okN a.data.toList = true ∧ okN b.data.toList = true
  · obtain ⟨hoa, hob⟩ := hok
    obtain ⟨i0, hi, hz0, hz1, hz2⟩ := info_parts intInfo
    have HK : Hid (natMul a.data.toList b.data.toList = limN (decV a.data.toList * decV b.data.toList)) := by unfold Hid natMul; rw [if_pos ⟨hoa, hob⟩]
    have va := fun W => rvalid_any a W ha
    have vb := fun W => rvalid_any b W hb
    rw [hoa] at va
    rw [hob] at vb
    have sa := okN_size hoa
    have sb := okN_size hob
    have da := fun W => rdigits_any a W (okN_digs hoa) (by omega)
    have db := fun W => rdigits_any b W (okN_digs hob) (by omega)
    have hxl := revD_lt (okN_digs hoa)
    have hyl := revD_lt (okN_digs hob)
    have hxn : (revD a.data.toList).length ≤ 1000 := by rw [revD_len, ← Lib.size_eq]; omega
    have hyn : (revD b.data.toList).length ≤ 1000 := by rw [revD_len, ← Lib.size_eq]; omega
    have HVx := Lib.hid (revD_val a.data.toList)
    have HVy := Lib.hid (revD_val b.data.toList)
    generalize decV a.data.toList = m at *
    generalize decV b.data.toList = n at *
    clear hoa hob
    generalize revD a.data.toList = x at *
    generalize revD b.data.toList = y at *
    have hA : Below w.heap.size w w := Below.refl _ _
    have HX := Lib.hid hxl
    have HY := Lib.hid hyl
    clear hxl hyl
    go_enter Tryz.func89, Tryz.ntmps89
    go_wp2_with (first | (go_at_call_of 41 (Value.string a); refine (va _).mono ?_; rintro e w2 ⟨rfl, rfl⟩) | (go_at_call_of 41 (Value.string b); refine (vb _).mono ?_; rintro e w2 ⟨rfl, rfl⟩))
    refine (da _).mono ?_
    rintro e w1 ⟨A1, c1, rfl, h1, r1, b1⟩
    have hA1 := bstep hA b1
    go_wp2_with fail
    refine (db _).mono ?_
    rintro e w2 ⟨A2, c2, rfl, h2, r2, b2⟩
    have hA2 := bstep hA1 b2
    have r1' := r1.below b2
    clear r1 b1 b2 hA hA1 va vb da db
    obtain ⟨N, hN⟩ : ∃ N, x.length + y.length + 1 = N := ⟨_, rfl⟩
    have hNi : (x.length : Int) + (y.length : Int) + 1 = (N : Int) := by omega
    obtain ⟨g, hg⟩ : ∃ g, w2.heap.size = g := ⟨_, rfl⟩
    go_wp2_with (at_make; refine wpList_make_full _ rfl (.tmp 30) (.tmp 30) 72 rfl w2.heap.size 3 i0 (.int .i64 0) 1 Tryz.underlying72 hi hz0 hz1 .i64 .i64 _ _ N rfl rfl (by omega) (by omega) (by rw [hz2]; omega) (by unfold maxLen; omega) (Nat.le_refl _) ?_; intro w3 own3 hg3)
    have hmade : (madeCells (Value.int .i64 0).cells (N * 1)).toList = (List.replicate N 0).map I := by
      rw [Nat.mul_one, List.map_replicate]
      exact toList_madeCells_one (.int .i64 0) N
    rw [hmade] at own3
    have hb3 : Below w2.heap.size w2 w3 := (Below.refl _ _).grown hg3 (Nat.le_refl _) (by simp)
    clear hmade hg3
    go_loopw [9] (fun i wr => ∃ (j0 : Nat) (L : List Nat), i = .int .i64 j0 ∧ j0 ≤ x.length ∧ Below w2.heap.size w2 wr ∧ MadeI w2.heap.size g N L wr ∧ Hid (∀ d ∈ L, d < 10) ∧ Hid (valL 10 L = valL 10 (x.take j0) * valL 10 y)) (fun i _ => x.length - (intOf i).toNat)
    case atStart => exact ⟨0, List.replicate N 0, rfl, by omega, hb3, ⟨by simp, by rw [hg] at own3 ⊢; exact own3⟩, fun d hd => by rw [List.eq_of_mem_replicate hd]; omega, by rw [Hid, valL_zeros]; simp [valL]⟩
    case round =>
      obtain ⟨i1, L, rfl, hi1, hbr, hmd, HL, HV⟩ := hrel
      by_cases hlt : i1 < x.length
      · go_wp2_with fail
        go_loopw [10, 11] (fun cy k wr' => ∃ (k0 q : Nat) (L' : List Nat), k = .int .i64 k0 ∧ k0 ≤ y.length + 1 ∧ cy = .int .i64 q ∧ q < 10 ∧ Below w2.heap.size w2 wr' ∧ MadeI w2.heap.size g N L' wr' ∧ Hid (∀ d ∈ L', d < 10) ∧ Hid (valL 10 L' + 10 ^ (i1 + k0) * q = valL 10 L + 10 ^ i1 * (x[i1] * valL 10 (y.take k0)))) (fun _ k _ => y.length + 1 - (intOf k).toNat)
        case atStart => exact ⟨0, 0, L, rfl, by omega, rfl, by omega, hbr, hmd, HL, by simp [Hid, valL]⟩
        case round =>
          obtain ⟨k0, q, L', rfl, hk0, rfl, hq, hbr', hmd', HL', HI⟩ := hrel
          have hLn := hmd'.1
          by_cases hlt2 : k0 < y.length + 1
          · obtain ⟨j, hj⟩ : ∃ j, i1 + k0 = j := ⟨_, rfl⟩
            have hjL : j < L'.length := by omega
            have hcg := hmd'.cell hjL
            have hfg := hmd'.frozen j
            have hgB : w2.heap.size ≤ g := by omega
            obtain ⟨bx, ox, rfl, hblx, hcellx⟩ := (r1'.below hbr') (by intro e; rw [List.map_eq_nil_iff] at e; rw [e] at hlt; simp at hlt)
            have hcx : _ = some (Value.int .i64 x[i1]) := hcellx i1 _ (getI hlt)
            have hay := fun n => rat_same A2 c2 y k0 _ ((r2.below hbr').drewN n)
            have ha1 := HL'.out _ (List.getElem_mem hjL)
            have hx1 := HX.out _ (List.getElem_mem hlt)
            have hy1 := getD_lt (by omega) HY.out k0
            have HST := Lib.hid (mul_step' (by omega) hj hjL HI.out (valL_take 10 y k0))
            clear hcellx
            generalize x[i1] = xi at hcx hx1 HST
            generalize L'[j] = a0 at hcg ha1 HST
            obtain ⟨yk, hyk⟩ : ∃ yk, y.getD k0 0 = yk := ⟨_, rfl⟩
            rw [hyk] at hy1 HST hay
            have hpp1 : xi * yk ≤ 9 * 9 := Nat.mul_le_mul (by omega) (by omega)
            obtain ⟨pp, hpp⟩ : ∃ pp, xi * yk = pp := ⟨_, rfl⟩
            have hpi : (xi : Int) * (yk : Int) = (pp : Int) := by rw [← hpp]; exact (Int.natCast_mul xi yk).symm
            rw [hpp] at hpp1 HST
            obtain ⟨dd, hdd⟩ : ∃ dd, a0 + q + pp = dd := ⟨_, rfl⟩
            rw [hdd] at HST
            have hdi : (a0 : Int) + (pp : Int) + (q : Int) = (dd : Int) := by omega
            have hdb : dd < 100 := by omega
            have HSL := Lib.hid (set_lt (j := j) HL'.out (Nat.mod_lt dd (show 10 > 0 by omega)))
            have hji : (i1 : Int) + (k0 : Int) = (j : Int) := by omega
            have jb0 : (0 : Int) ≤ (j : Int) := by omega
            have jb1 : (j : Int) < (N : Int) := by omega
            have kb0 : (0 : Int) ≤ (k0 : Int) := by omega
            have kb2 : (k0 : Int) ≤ (y.length : Int) := by omega
            have ib0 : (0 : Int) ≤ (i1 : Int) := by omega
            have ib1 : (i1 : Int) < (x.length : Int) := by omega
            have q1 : IntKind.i64.wrap (pp : Int) = (pp : Int) := by rw [wrapE]; exact IntWalk.wrap64_in _ ⟨by omega, by omega⟩
            have q2 : IntKind.i64.wrap ((a0 : Int) + (pp : Int)) = (a0 : Int) + (pp : Int) := by rw [wrapE]; exact IntWalk.wrap64_in _ ⟨by omega, by omega⟩
            have q3 : IntKind.i64.wrap (dd : Int) = (dd : Int) := by rw [wrapE]; exact IntWalk.wrap64_in _ ⟨by omega, by omega⟩
            have q4 : IntKind.i64.wrap (j : Int) = (j : Int) := by rw [wrapE]; exact IntWalk.wrap64_in _ ⟨by omega, by omega⟩
            clear hpp ha1 hj hyk hdd
            go_wp2_with fail
            go_quiet (first | (go_at_call 94; refine Calls.quiet_of_same (hay _)))
            go_wp2_with fail
            have hmq : MadeI w2.heap.size g N L' (wr.drewN nq) := hmd'
            have hbq : Below w2.heap.size w2 (wr.drewN nq) := ⟨hbr'.os, hbr'.tape, hbr'.output, hbr'.size, hbr'.block⟩
            have hst := hmq.store j (dd % 10)
            have hbs := hbq.setCell (p := ⟨g, j, none⟩) hgB (.int .i64 (dd % 10 : Nat))
            have e1 : ((dd % 10 : Nat) : Int) = (dd : Int) % 10 := by omega
            rw [e1] at hst hbs
            go_roundw
            case rel => exact ⟨k0 + 1, dd / 10, L'.set j (dd % 10), by go_num, by omega, by go_num, by omega, hbs, hst, HSL, HST.out⟩
            case measure => simp [intOf]; omega
          · obtain rfl : k0 = y.length + 1 := by omega
            have h1 := HI.out
            rw [List.take_of_length_le (by omega), HV.out] at h1
            obtain ⟨hq0, hS⟩ := mul_carry (by omega) HX.out HY.out hlt h1
            have HS := Lib.hid hS
            clear h1 hq0 hS
            go_wp2_with fail
            go_roundw
            case rel => exact ⟨i1 + 1, L', by go_num, by omega, hbr', hmd', HL', HS⟩
            case measure => simp [intOf]; omega
      · obtain rfl : i1 = x.length := by omega
        have hV := HV.out
        rw [List.take_length, HVx.out, HVy.out] at hV
        have hLn := hmd.1
        have ht := rtext_any (some ⟨g, 0, none⟩) N L wr HL.out hmd.row (by omega) (by intro e; rw [e] at hLn; simp at hLn; omega)
        rw [hV, hLn] at ht
        obtain ⟨F, hF⟩ : ∃ F : ByteArray, (⟨(decT (m * n)).toArray⟩ : ByteArray) = F := ⟨_, rfl⟩
        rw [hF] at ht
        have hl := fun W => rlimited_any F W
        rw [limN_eq _ F hF] at hl
        have hA3 := bstep hA2 hbr
        clear hV hF hmd hN hNi
        go_wp2_with (first
          | (go_at_call 67; refine ht.mono ?_; rintro e w5 ⟨rfl, b5⟩; have hA5 := bstep hA3 b5)
          | (go_at_call 111; refine (hl _).mono ?_; rintro e w6 ⟨rfl, rfl⟩))
        go_returns
        unfold TxtPost
        rw [HK.out]
        exact ⟨rfl, hA5⟩
  · refine (rmul_bad a b w ha hb hok).mono ?_
    rintro e w' ⟨rfl, rfl⟩
    unfold TxtPost natMul
    rw [if_neg hok]
    exact ⟨rfl, Below.refl _ _⟩
end Go.Proofs.YtfgmjdhoeilhcaaGreatDoor
