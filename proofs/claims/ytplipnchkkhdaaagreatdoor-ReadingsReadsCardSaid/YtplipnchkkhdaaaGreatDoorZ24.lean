/- Walks of the reference of layer 33: opens, closes, toNumber. -/
import Derived.Test.YtplipnchkkhdaaaGreatDoorZ23
import Derived.Test.YtplipnchkkhdaaaGreatDoorZ01
import Derived.Test.YtplipnchkkhdaaaGreatDoorZ07
import Derived.Deep.Onto
namespace Go.Proofs.YtplipnchkkhdaaaGreatDoor
open Go.RowKit
set_option linter.unusedVariables false

theorem opens_empty {s : ByteArray} (h : s.size = 0) : opens s.data.toList = false := by
  have : s.data.toList = [] := List.eq_nil_of_length_eq_zero (by rw [← Lib.size_eq]; exact h)
  rw [this]; rfl
theorem opens_byte {s : ByteArray} (h : 0 < s.size) : ((((s[0]'h).toNat : Nat) : Int) == 40) = opens s.data.toList := by
  have := u8_beq (c := s[0]) (d := 40)
  rw [show (((40 : UInt8).toNat : Nat) : Int) = 40 from rfl] at this
  rw [this]
  unfold opens
  rw [byte0 s h]
  rfl
set_option maxHeartbeats 1000000 in
theorem ropens_any (s : ByteArray) (w : World) : Calls Tryz.prog 98 #[.string s] w fun e w' => e = .returned (.bool (opens s.data.toList)) ∧ w = w' := by
  by_cases h : 0 < s.size
  · have hb := opens_byte h
    have d0 : (0 : Int) < (s.size : Int) := by omega
    generalize opens s.data.toList = q at *
    go_enter Tryz.func98, Tryz.ntmps98
    go_wp2_with fail
    go_returns
    exact ⟨rfl, rfl⟩
  · have hb := Lib.hid (opens_empty (s := s) (by omega))
    have d0 : decide ((0 : Int) < (s.size : Int)) = false := decide_eq_false (by omega)
    generalize opens s.data.toList = q at *
    go_enter Tryz.func98, Tryz.ntmps98
    go_wp2_with fail
    go_returns
    exact ⟨by rw [hb.out]; (try rfl), rfl⟩
/-! ### closes -/
theorem closes_pct (s : ByteArray) {k : Nat} (h : k < s.size) (h2 : s[k] = 37) (last : Bool) : closesGo last (s.data.toList.drop k) = closesGo false (s.data.toList.drop (k + 2)) := by
  rw [drop_byte s k h, h2]
  by_cases h3 : k + 1 < s.size
  · rw [drop_byte s (k + 1) h3, closesGo_two]
  · have e0 : s.data.toList.drop (k + 1) = [] := List.drop_eq_nil_of_le (by rw [← Lib.size_eq]; omega)
    have e1 : s.data.toList.drop (k + 2) = [] := List.drop_eq_nil_of_le (by rw [← Lib.size_eq]; omega)
    rw [e0, e1, closesGo_lone, closesGo.eq_def]
theorem closes_other (s : ByteArray) {k : Nat} (h : k < s.size) (h2 : s[k] ≠ 37) (last : Bool) : closesGo last (s.data.toList.drop k) = closesGo (s[k] == 41) (s.data.toList.drop (k + 1)) := by
  rw [drop_byte s k h, closesGo_plain h2]
theorem closes_nil (s : ByteArray) {k : Nat} (h : s.size ≤ k) (last : Bool) : closesGo last (s.data.toList.drop k) = last := by
  rw [List.drop_eq_nil_of_le (by rw [← Lib.size_eq]; exact h), closesGo.eq_def]
set_option maxHeartbeats 2000000 in
set_option maxRecDepth 100000 in
theorem rcloses_any (s : ByteArray) (w : World) (hs : s.size ≤ 1000000) : Calls Tryz.prog 99 #[.string s] w fun e w' => e = .returned (.bool (closes s.data.toList)) ∧ w = w' := by
  go_enter Tryz.func99, Tryz.ntmps99
  go_wp2_with fail
  go_loopw [3, 4] (fun v i wr => w = wr ∧ ∃ (k : Nat) (q : Bool), i = .int .i64 k ∧ v = .bool q ∧ k ≤ s.size + 1 ∧ Hid (closes s.data.toList = closesGo q (s.data.toList.drop k))) (fun _ i _ => s.size + 1 - (intOf i).toNat)
  case atStart => exact ⟨rfl, 0, false, rfl, rfl, by omega, rfl⟩
  case round =>
    obtain ⟨hw, k, q, rfl, rfl, hk, H⟩ := hrel
    by_cases hlt : k < s.size
    · have k0 : (0 : Int) ≤ (k : Int) := by omega
      have k1 : (k : Int) < (s.size : Int) := by omega
      have b37 := u8_beq (c := s[k]) (d := 37)
      have b41 := u8_beq (c := s[k]) (d := 41)
      rw [show (((37 : UInt8).toNat : Nat) : Int) = 37 from rfl] at b37
      rw [show (((41 : UInt8).toNat : Nat) : Int) = 41 from rfl] at b41
      by_cases h37 : s[k] = 37
      · have HX := Lib.hid (H.out.trans (closes_pct s hlt h37 q))
        rw [decide_eq_true h37] at b37
        rw [decide_eq_false (by rw [h37]; decide)] at b41
        clear h37
        go_wp2_with fail
        go_roundw
        case rel => exact ⟨hw, k + 2, false, by go_num, rfl, by omega, HX.out⟩
        case measure => simp [intOf]; omega
      · have HX := Lib.hid (H.out.trans (closes_other s hlt h37 q))
        rw [decide_eq_false h37] at b37
        have hq : (s[k] == 41) = decide (s[k] = 41) := by
          by_cases e : s[k] = 41
          · rw [e]; rfl
          · rw [decide_eq_false e]; simpa using e
        rw [hq] at HX
        generalize decide (s[k] = 41) = q2 at *
        clear h37 hq
        go_wp2_with fail
        go_roundw
        case rel => exact ⟨hw, k + 1, q2, by go_num, rfl, by omega, HX.out⟩
        case measure => simp [intOf]; omega
    · have HX := Lib.hid (H.out.trans (closes_nil s (by omega) q))
      have k1 : (s.size : Int) ≤ (k : Int) := by omega
      go_wp2_with fail
      go_returns
      exact ⟨by rw [HX.out]; (try rfl), hw⟩
/-! ### toNumber -/
def numF (n : Int) (c : UInt8) : Int := if 48 ≤ c.toNat ∧ c.toNat ≤ 57 then 10 * n + (c.toNat - 48 : Nat) else n
theorem toNum_eq (s : Bs) : toNum s = if s.headD 0 = 45 then -((s.take 3).foldl numF 0) else (s.take 3).foldl numF 0 := rfl
theorem num_step (s : ByteArray) {k : Nat} (h : k < s.size) : (s.data.toList.take (k + 1)).foldl numF 0 = numF ((s.data.toList.take k).foldl numF 0) s[k] := by
  have hl : k < s.data.toList.length := by rw [← Lib.size_eq]; exact h
  rw [List.take_succ_eq_append_getElem hl, List.foldl_append]
  rfl
theorem num_end (s : ByteArray) {k : Nat} (h : s.size ≤ k ∧ k ≤ 3 ∨ k = 3) : (s.data.toList.take k).foldl numF 0 = (s.data.toList.take 3).foldl numF 0 := by
  rcases h with ⟨h, h3⟩ | h
  · rw [List.take_of_length_le (by rw [← Lib.size_eq]; exact h), List.take_of_length_le (by rw [← Lib.size_eq]; omega)]
  · rw [h]
theorem pow_three {n k : Nat} (h : n < 10 ^ k) (hk : k < 3) : n ≤ 99 := by
  have : 10 ^ k ≤ 10 ^ 2 := Nat.pow_le_pow_right (by omega) (by omega)
  omega
theorem pow_three' {n k : Nat} (h : n < 10 ^ k) (hk : k ≤ 3) : n ≤ 999 := by
  have : 10 ^ k ≤ 10 ^ 3 := Nat.pow_le_pow_right (by omega) (by omega)
  omega
theorem pow_next {n k d : Nat} (h : n < 10 ^ k) (hd : d ≤ 9) : 10 * n + d < 10 ^ (k + 1) := by
  rw [Nat.pow_succ]; omega
theorem pow_keep {n k : Nat} (h : n < 10 ^ k) : n < 10 ^ (k + 1) := by
  rw [Nat.pow_succ]; omega
set_option maxHeartbeats 2000000 in
set_option maxRecDepth 100000 in
theorem toNumber_any (s : ByteArray) (w : World) : Calls Tryz.prog 117 #[.string s] w fun e w' => e = .returned (.int .i64 (toNum s.data.toList)) ∧ w = w' := by
  go_enter Tryz.func117, Tryz.ntmps117
  go_wp2_with fail
  go_loopw [3, 4] (fun v i wr => w = wr ∧ ∃ (k n : Nat), i = .int .i64 k ∧ v = .int .i64 (n : Int) ∧ k ≤ 3 ∧ k ≤ s.size ∧ Hid (n < 10 ^ k) ∧ Hid ((n : Int) = (s.data.toList.take k).foldl numF 0)) (fun _ i _ => 3 - (intOf i).toNat)
  case atStart => exact ⟨rfl, 0, 0, rfl, rfl, by omega, by omega, by simp [Hid], by simp [Hid]⟩
  case round =>
    obtain ⟨hw, k, n, rfl, rfl, hk3, hks, HP, H⟩ := hrel
    have k0 : (0 : Int) ≤ (k : Int) := by omega
    by_cases hlt : k < s.size ∧ k < 3
    · obtain ⟨hlt, h3⟩ := hlt
      have k1 : (k : Int) < (s.size : Int) := by omega
      have k3 : (k : Int) < 3 := by omega
      have hn := pow_three HP.out h3
      have HS := Lib.hid ((num_step s hlt).trans (by rw [← H.out]))
      obtain ⟨c, hc⟩ : ∃ c, (s[k]).toNat = c := ⟨_, rfl⟩
      have hc256 : c < 256 := by rw [← hc]; exact UInt8.toNat_lt _
      by_cases hd : 48 ≤ c ∧ c ≤ 57
      · obtain ⟨d, rfl⟩ : ∃ d, c = 48 + d := ⟨c - 48, by omega⟩
        have hd9 : d ≤ 9 := by omega
        have HX : Hid (((10 * n + d : Nat) : Int) = (s.data.toList.take (k + 1)).foldl numF 0) := by
          rw [Hid, HS.out]; unfold numF; rw [hc, if_pos hd]; push_cast; omega
        have HP2 := Lib.hid (pow_next HP.out hd9)
        have t1 : (48 : Int) ≤ ((s[k]).toNat : Int) := by omega
        have t2 : ((s[k]).toNat : Int) ≤ 57 := by omega
        clear hd
        go_wp2_with fail
        go_roundw
        case rel => exact ⟨hw, k + 1, 10 * n + d, by go_num, by congr 1; push_cast; omega, by omega, by omega, HP2.out, HX.out⟩
        case measure => simp [intOf]; omega
      · have HX : Hid ((n : Int) = (s.data.toList.take (k + 1)).foldl numF 0) := by
          rw [Hid, HS.out]; unfold numF; rw [hc, if_neg hd]
        have HP2 := Lib.hid (pow_keep HP.out)
        have hcase : ((48 : Int) ≤ (c : Int) ∧ ¬ ((c : Int) ≤ 57)) ∨ ¬ ((48 : Int) ≤ (c : Int)) := by omega
        clear hd
        rcases hcase with ⟨t1, t2⟩ | t1
        · have d1 : decide ((48 : Int) ≤ (c : Int)) = true := decide_eq_true t1
          have d2 : decide ((c : Int) ≤ 57) = false := decide_eq_false t2
          go_wp2_with fail
          go_roundw
          case rel => exact ⟨hw, k + 1, n, by go_num, rfl, by omega, by omega, HP2.out, HX.out⟩
          case measure => simp [intOf]; omega
        · have d1 : decide ((48 : Int) ≤ (c : Int)) = false := decide_eq_false t1
          go_wp2_with fail
          go_roundw
          case rel => exact ⟨hw, k + 1, n, by go_num, rfl, by omega, by omega, HP2.out, HX.out⟩
          case measure => simp [intOf]; omega
    · have hE := num_end s (k := k) (by omega)
      have hn := pow_three' HP.out hk3
      have HE : Hid ((s.data.toList.take 3).foldl numF 0 = (n : Int)) := by rw [Hid, ← hE]; exact H.out.symm
      have HX : Hid (toNum s.data.toList = if s.data.toList.headD 0 = 45 then -(n : Int) else (n : Int)) := by rw [Hid, toNum_eq, HE.out]
      have hcase : ((s.size : Int) ≤ (k : Int)) ∨ ((k : Int) < (s.size : Int) ∧ k = 3) := by omega
      have hcase2 : (s.size = 0 ∧ s.data.toList.headD 0 ≠ 45) ∨ (∃ h : 0 < s.size, ((((s[0]'h).toNat : Nat) : Int) == 45) = decide (s.data.toList.headD 0 = 45)) := by
        by_cases h : 0 < s.size
        · right
          refine ⟨h, ?_⟩
          have := u8_beq (c := s[0]) (d := 45)
          rw [show (((45 : UInt8).toNat : Nat) : Int) = 45 from rfl] at this
          rw [this, byte0 s h]
        · left
          refine ⟨by omega, ?_⟩
          have : s.data.toList = [] := List.eq_nil_of_length_eq_zero (by rw [← Lib.size_eq]; omega)
          rw [this]; decide
      clear hE HP H hlt
      rcases hcase with hk | ⟨hk, rfl⟩
      case' inl => have d0 : decide ((k : Int) < (s.size : Int)) = false := decide_eq_false (by omega)
      all_goals
        rcases hcase2 with ⟨h0, hne⟩ | ⟨h0, hb⟩
        · have d1 : decide ((0 : Int) < (s.size : Int)) = false := decide_eq_false (by omega)
          have HX2 : Hid (toNum s.data.toList = (n : Int)) := by rw [Hid, HX.out, if_neg hne]
          clear hne
          go_wp2_with fail
          go_returns
          exact ⟨by rw [HX2.out]; (try rfl), by first | exact hw | rfl⟩
        · have d1 : (0 : Int) < (s.size : Int) := by omega
          by_cases h45 : s.data.toList.headD 0 = 45
          · have HX2 : Hid (toNum s.data.toList = -(n : Int)) := by rw [Hid, HX.out, if_pos h45]
            rw [decide_eq_true h45] at hb
            clear h45
            go_wp2_with fail
            go_returns
            exact ⟨by rw [HX2.out]; (try rfl), by first | exact hw | rfl⟩
          · have HX2 : Hid (toNum s.data.toList = (n : Int)) := by rw [Hid, HX.out, if_neg h45]
            rw [decide_eq_false h45] at hb
            clear h45
            go_wp2_with fail
            go_returns
            exact ⟨by rw [HX2.out]; (try rfl), by first | exact hw | rfl⟩

/- Walk of the reference of layer 33: readTest. -/
open Go.RowKit
set_option linter.unusedVariables false

theorem head_cases (s : ByteArray) : (s.size = 0 ∧ cutHead s.data.toList 33 = (s.data.toList, false)) ∨ (∃ h : 0 < s.size, ((((s[0]'h).toNat : Nat) : Int) == 33) = true ∧ cutHead s.data.toList 33 = ((s.extract 1 s.size).data.toList, true)) ∨
    (∃ h : 0 < s.size, ((((s[0]'h).toNat : Nat) : Int) == 33) = false ∧ cutHead s.data.toList 33 = (s.data.toList, false)) := by
  by_cases h : 0 < s.size
  · have hb := u8_beq (c := s[0]) (d := 33)
    rw [show (((33 : UInt8).toNat : Nat) : Int) = 33 from rfl] at hb
    have he := drop_byte s 0 h
    rw [List.drop_zero] at he
    have hx : (s.extract 1 s.size).data.toList = s.data.toList.drop 1 := by
      rw [ext_data, List.take_of_length_le (by rw [List.length_drop, ← Lib.size_eq]; omega)]
    right
    by_cases hc : s[0] = 33
    · left
      refine ⟨h, by rw [hb, decide_eq_true hc], ?_⟩
      rw [hx]
      conv => lhs; rw [he]
      unfold cutHead
      simp only
      rw [if_pos hc]
    · right
      refine ⟨h, by rw [hb, decide_eq_false hc], ?_⟩
      conv => lhs; rw [he]
      unfold cutHead
      simp only
      rw [if_neg hc, ← he]
  · left
    have e : s.data.toList = [] := List.eq_nil_of_length_eq_zero (by rw [← Lib.size_eq]; omega)
    exact ⟨by omega, by rw [e]; rfl⟩
theorem end_cases (s : ByteArray) (c : UInt8) : (s.size = 0 ∧ cutEnd s.data.toList c = (s.data.toList, false)) ∨ ∃ m, s.size = m + 1 ∧ ∃ h : m < s.size, (((((s[m]'h).toNat : Nat) : Int) == ((c.toNat : Nat) : Int)) = true ∧ cutEnd s.data.toList c = ((s.extract 0 m).data.toList, true)) ∨
    (((((s[m]'h).toNat : Nat) : Int) == ((c.toNat : Nat) : Int)) = false ∧ cutEnd s.data.toList c = (s.data.toList, false)) := by
  by_cases h : 0 < s.size
  · right
    refine ⟨s.size - 1, by omega, by omega, ?_⟩
    have hm : s.size - 1 < s.size := by omega
    have hb := u8_beq (c := s[s.size - 1]) (d := c)
    have hl : s.data.toList.getLast? = some s[s.size - 1] := by
      have hl2 : s.data.toList.length - 1 < s.data.toList.length := by rw [← Lib.size_eq]; omega
      rw [List.getLast?_eq_getElem?, List.getElem?_eq_getElem hl2]
      congr 1
    have hx : (s.extract 0 (s.size - 1)).data.toList = s.data.toList.dropLast := by
      rw [ext_data, List.drop_zero, List.dropLast_eq_take, ← Lib.size_eq]; rfl
    by_cases hc : s[s.size - 1] = c
    · left
      refine ⟨by rw [hb, decide_eq_true hc], ?_⟩
      unfold cutEnd
      rw [hl, if_pos (by rw [hc]), hx]
    · right
      refine ⟨by rw [hb, decide_eq_false hc], ?_⟩
      unfold cutEnd
      rw [hl, if_neg (fun e => hc (Option.some.inj e))]
  · left
    have e : s.data.toList = [] := List.eq_nil_of_length_eq_zero (by rw [← Lib.size_eq]; omega)
    refine ⟨by omega, ?_⟩
    rw [e]; rfl
theorem testR_of {f : List Bs} {a b c : Bs × Bool} (h1 : cutHead (f.headD []) 33 = a) (h2 : cutEnd a.1 67 = b) (h3 : cutEnd b.1 42 = c) : testR f = (match barAt f.tail with
    | some k => ⟨toNum c.1, c.2, a.2, b.2, namesR (f.tail.take k), namesR (f.tail.drop (k + 1))⟩ | none => ⟨toNum c.1, c.2, a.2, b.2, namesR f.tail, []⟩ : Tst) := by
  subst h1 h2 h3; rfl
/-- no bar ahead of word k -/
theorem barAt_skip {l : List Bs} {k : Nat} (h1 : 1 ≤ k) (h : k < l.length) (hne : l[k] ≠ [124]) (H : barAt l.tail = (barAt (l.drop k)).map (· + (k - 1))) : barAt l.tail = (barAt (l.drop (k + 1))).map (· + (k + 1 - 1)) := by
  rw [H, List.drop_eq_getElem_cons h, barAt, if_neg hne]
  cases barAt (l.drop (k + 1)) with
  | none => rfl
  | some j => simp; omega
theorem barAt_found {l : List Bs} {k : Nat} (h : k < l.length) (he : l[k] = [124]) (H : barAt l.tail = (barAt (l.drop k)).map (· + (k - 1))) : barAt l.tail = some (k - 1) := by
  rw [H, List.drop_eq_getElem_cons h, barAt, if_pos he]; simp
theorem barAt_out {l : List Bs} (H : barAt l.tail = (barAt (l.drop l.length)).map (· + (l.length - 1))) : barAt l.tail = none := by
  rw [H, List.drop_length]; rfl
theorem ext_size_le (s : ByteArray) (i j n : Nat) (h : s.size ≤ n) : (s.extract i j).size ≤ n := by
  rw [Lib.size_eq, ext_data, List.length_take, List.length_drop, ← Lib.size_eq]; omega
theorem row_sub {w : World} {b o k n : Nat} {l : List Bs} (h : RowAt w (some ⟨b, o, none⟩) (l.map S)) : RowAt w (some ⟨b, o + k, none⟩) (((l.drop k).take n).map S) := by
  intro hne
  have hl : l.map S ≠ [] := by intro e; rw [List.map_eq_nil_iff] at e; subst e; simp at hne
  obtain ⟨b', o', e, h1, h2⟩ := h hl
  simp only [Option.some.injEq, Addr.mk.injEq, and_true] at e
  obtain ⟨rfl, rfl⟩ := e
  refine ⟨b, o + k, rfl, h1, fun j u hu => ?_⟩
  rw [Nat.add_assoc]
  refine h2 (k + j) u ?_
  rw [List.getElem?_map, List.getElem?_take] at hu
  split at hu
  · rwa [List.getElem?_drop, ← List.getElem?_map] at hu
  · cases hu
theorem names_part {w W : World} {b o k n c' : Nat} {l : List Bs} (h : RowAt w (some ⟨b, o, none⟩) (l.map S)) (hsz : ∀ x ∈ l, x.length ≤ 1000000) (hl : l.length ≤ 1000000000) (hb : Below w.heap.size w W) (hn : k + n ≤ l.length) :
    Calls Tryz.prog 68 #[.slice (some ⟨b, o + k, none⟩) n c'] W fun e w' => ∃ v, e = .returned v ∧ Own W.heap.size 9 v ((namesR ((l.drop k).take n)).map S) w' ∧ Below W.heap.size W w' := by
  have := rnames_any (some ⟨b, o + k, none⟩) c' ((l.drop k).take n) W ((row_sub h).below hb) (by rw [List.length_take, List.length_drop]; omega) (fun x hx => by have := hsz x (List.mem_of_mem_drop (List.mem_of_mem_take hx)); omega)
  rwa [show ((l.drop k).take n).length = n by rw [List.length_take, List.length_drop]; omega] at this
theorem names_len (l : List Bs) : (namesR l).length = l.length := by unfold namesR; simp
theorem own_last {X : Nat → Prop} {B B' : Nat} {e : TypeId} {v : Value} {cs : List Value} {w w' : World} (h : Own B e v cs w) (hB : B' ≤ B) (hc : Chg X w w') (hX : ∀ b, X b → b < B) : Own B' e v cs w' :=
  World.ownsRow.mono (own_chg h hc fun g hg hx => by have h1 := (Own.lt h g hg).1; have h2 := hX g hx; omega) hB
theorem Chg.set {X : Nat → Prop} {w w' : World} (h : Chg X w w') {b k : Nat} (hp : X b) (v : Value) : Chg X w (w'.setCell ⟨b, k, none⟩ v) := h.trans (chg_setCell w' b k v) fun c _ e => by rw [e]; exact hp
set_option maxHeartbeats 16000000 in
set_option maxRecDepth 100000 in
theorem rreadTest_0 (b o c : Nat) (l : List Bs) (w : World) (hrow : RowAt w (some ⟨b, o, none⟩) (l.map S)) (hne : 0 < l.length) (hc : l.length ≤ c) (hl1 : l.length ≤ 1000000000) (hcm : c ≤ 9223372036854775807) (hsz : ∀ x ∈ l, x.length ≤ 1000000) (hcase : (⟨(l.headD []).toArray⟩ : ByteArray).size = 0 ∧ cutHead (⟨(l.headD []).toArray⟩ : ByteArray).data.toList 33 = ((⟨(l.headD []).toArray⟩ : ByteArray).data.toList, false)) :
    Calls Tryz.prog 100 #[.slice (some ⟨b, o, none⟩) l.length c] w fun e w' => ∃ vT vB, e = .returned (.agg #[.int .i64 (testR l).at_, .bool (testR l).scan, .bool (testR l).not_, .bool (testR l).careful, vT, vB]) ∧
      Own w.heap.size 9 vT ((testR l).tags.map S) w' ∧ Own w.heap.size 9 vB ((testR l).barrier.map S) w' ∧ Below w.heap.size w w' := by
  obtain ⟨b', o', e0, hbl, hcell⟩ := hrow (by intro e; rw [List.map_eq_nil_iff] at e; rw [e] at hne; simp at hne)
  simp only [Option.some.injEq, Addr.mk.injEq, and_true] at e0
  obtain ⟨rfl, rfl⟩ := e0
  have HC : Hid (∀ k (hk : k < l.length), w.cell? ⟨b, o + k, none⟩ = some (S l[k])) := fun k hk => hcell k _ (getS hk)
  have h0 : w.cell? ⟨b, o, none⟩ = some (S l[0]) := HC.out 0 hne
  have hh : l.headD [] = l[0] := by cases l with | nil => simp at hne | cons x r => rfl
  have HR := Lib.hid hrow
  obtain ⟨B, hB⟩ : ∃ B : ByteArray, (⟨l[0].toArray⟩ : ByteArray) = B := ⟨_, rfl⟩
  have hBd : l.headD [] = B.data.toList := by rw [hh, ← hB]
  unfold S at h0
  rw [hB] at h0
  have n0 : (0 : Int) < (l.length : Int) := by omega
  have HSZ := Lib.hid hsz
  have b0 : b < (w.alloc (.cells #[.int .i64 0, .bool false, .bool false, .bool false, .slice none 0 0, .slice none 0 0] 79)).heap.size := by simp; omega
  have hBs : B.size ≤ 1000000 := by rw [← hB, Lib.size_eq]; exact hsz _ (List.getElem_mem _)
  have hB2 : (⟨(l.headD []).toArray⟩ : ByteArray) = B := by rw [hh]; exact hB
  rw [hB2] at hcase
  clear hB2 hB hh hrow hcell hsz
  obtain ⟨z1, e1⟩ := hcase
  have hnil : B.data.toList = [] := List.eq_nil_of_length_eq_zero (by rw [← Lib.size_eq]; exact z1)
  have e2 : cutEnd B.data.toList 67 = (B.data.toList, false) := by rw [hnil]; rfl
  have e3 : cutEnd B.data.toList 42 = (B.data.toList, false) := by rw [hnil]; rfl
  clear hnil
  have ht := testR_of ((congrArg (cutHead · 33) hBd).trans e1) e2 e3
  dsimp only at ht
  have HT := Lib.hid ht
  clear ht
  clear e1 e2 e3 hBd
  go_enter Tryz.func100, Tryz.ntmps100
  go_wp2_with fail
  refine (toNumber_any _ _).mono ?_
  rintro e wx ⟨rfl, rfl⟩
  go_wp2_with fail
  obtain ⟨W, hW⟩ : ∃ W, W = (w.alloc (.cells #[.int .i64 0, .bool false, .bool false, .bool false, .slice none 0 0, .slice none 0 0] 79)).alloc (.cells #[.int .i64 (toNum B.data.toList), .bool false, .bool false, .bool false, .slice none 0 0, .slice none 0 0] 79) := ⟨_, rfl⟩
  rw [← hW]
  have bW : Below w.heap.size w W := by rw [hW]; exact ((Below.refl _ _).alloc (Nat.le_refl _) _).alloc (by simp) _
  have hz : W.heap.size = w.heap.size + 2 := by rw [hW]; simp
  have hb1 : W.heap[w.heap.size]? = some (.cells #[.int .i64 0, .bool false, .bool false, .bool false, .slice none 0 0, .slice none 0 0] 79 (0, 0)) := by
    rw [hW]
    exact (((Below.refl _ _).alloc (Nat.le_refl _) _).block w.heap.size (by simp)).trans (heap_alloc_new w _)
  have hb2 : W.heap[w.heap.size + 1]? = some (.cells #[.int .i64 (toNum B.data.toList), .bool false, .bool false, .bool false, .slice none 0 0, .slice none 0 0] 79 (0, 0)) := by
    rw [hW]
    have := heap_alloc_new (w.alloc (.cells #[.int .i64 0, .bool false, .bool false, .bool false, .slice none 0 0, .slice none 0 0] 79)) (.cells #[.int .i64 (toNum B.data.toList), .bool false, .bool false, .bool false, .slice none 0 0, .slice none 0 0] 79)
    simpa using this
  clear hW
  generalize toNum B.data.toList = at' at *
  ((try clear z1); (try clear hBs))
  have HZ := Lib.hid hz
  have HB1 := Lib.hid hb1
  have HB2 := Lib.hid hb2
  clear hz hb1 hb2
  go_loopw [5] (fun i wr => W = wr ∧ ∃ (k : Nat), i = .int .i64 k ∧ 1 ≤ k ∧ k ≤ l.length ∧ Hid (barAt l.tail = (barAt (l.drop k)).map (· + (k - 1)))) (fun i _ => l.length - (intOf i).toNat)
  case atStart => exact ⟨rfl, 1, rfl, by omega, by omega, by rw [Hid, List.drop_one]; cases barAt l.tail <;> rfl⟩
  case round =>
    obtain ⟨hw, k, rfl, hk1, hkl, H⟩ := hrel
    subst hw
    have k0 : (0 : Int) ≤ (k : Int) := by omega
    by_cases hlt : k < l.length
    · have k1 : (k : Int) < (l.length : Int) := by omega
      have kc : W.cell? ⟨b, o + k, none⟩ = some (.string ⟨l[k].toArray⟩) := (bW.cell (p := ⟨b, o + k, none⟩) hbl).trans (HC.out k hlt)
      by_cases he : l[k] = [124]
      · have HX := Lib.hid (barAt_found hlt he H.out)
        rw [he] at kc
        have HT2 : Hid (testR l = ⟨at', false, false, false, namesR (l.tail.take (k - 1)), namesR (l.drop (k + 1))⟩) := by
          rw [Hid, HT.out, HX.out]
          simp only
          rw [show k - 1 + 1 = k by omega, ← List.drop_one, List.drop_drop, Nat.add_comm]
        have p1 := names_part (k := 1) (n := k - 1) (c' := c - 1) HR.out HSZ.out (by omega) bW (by omega)
        rw [List.drop_one] at p1
        have n1 := names_len (l.tail.take (k - 1))
        have P2a : Hid (c = k + 1 → ∀ W', Below w.heap.size w W' → Calls Tryz.prog 68 #[.slice (some ⟨b, o, none⟩) (l.length - (k + 1)) 0] W' fun e w' => ∃ v, e = .returned v ∧ Own W'.heap.size 9 v ((namesR (l.drop (k + 1))).map S) w' ∧ Below W'.heap.size W' w') := by
          intro hck W' hb
          rw [show l.length - (k + 1) = 0 by omega, List.drop_eq_nil_of_le (by omega)]
          exact rnames_any (some ⟨b, o, none⟩) 0 [] W' (RowAt.nil _ _) (by simp) (by simp)
        have P2b : Hid (∀ W', Below w.heap.size w W' → Calls Tryz.prog 68 #[.slice (some ⟨b, o + (k + 1), none⟩) (l.length - (k + 1)) (c - (k + 1))] W' fun e w' => ∃ v, e = .returned v ∧ Own W'.heap.size 9 v ((namesR (l.drop (k + 1))).map S) w' ∧ Below W'.heap.size W' w') := by
          intro W' hb
          have := names_part (k := k + 1) (n := l.length - (k + 1)) (c' := c - (k + 1)) HR.out HSZ.out (by omega) hb (by omega)
          rwa [List.take_of_length_le (by rw [List.length_drop]; omega)] at this
        clear he H HX HT
        go_wp2_with fail
        refine p1.mono ?_
        rintro e W2 ⟨v1, rfl, own1, b2'⟩
        obtain ⟨N1, hN1⟩ : ∃ N, (List.map S (namesR (l.tail.take (k - 1)))).length = N := ⟨_, rfl⟩
        obtain ⟨A1, d1, rfl, hd1, _⟩ := own1.row.to hN1
        clear hN1
        have hz := HZ.out
        have hc1 := (b2'.block _ (by omega)).trans HB1.out
        have hc2 := (b2'.block _ (by omega)).trans HB2.out
        have bW2 := bstep bW b2'
        have q4 := cell_of_row W2 (w.heap.size + 1) 4 _ _ (0, 0) hc2
        have f4 := fzB hc2 4
        simp at q4
        have hz2 := b2'.size
        have O1 := Lib.hid own1
        have C1 := Lib.hid hc1
        have C2 := Lib.hid hc2
        have Z2 := Lib.hid hz2
        clear hc1 hc2 own1 p1 hz hz2
        go_wp2_with fail
        case' inl => refine (P2a.out (by assumption) _ (bW2.setCell (p := ⟨w.heap.size + 1, 4, none⟩) (by simp) _)).mono ?_
        case' inr => refine (P2b.out _ (bW2.setCell (p := ⟨w.heap.size + 1, 4, none⟩) (by simp) _)).mono ?_
        all_goals
          rintro e W3 ⟨v2, rfl, own2, b3⟩
          obtain ⟨N2, hN2⟩ : ∃ N, (List.map S (namesR (l.drop (k + 1)))).length = N := ⟨_, rfl⟩
          obtain ⟨A2, d2, rfl, hd2, _⟩ := own2.row.to hN2
          clear hN2
          have hz := HZ.out
          have hz2 := Z2.out
          have hz3 := b3.size
          rw [World.size_setCell] at hz3
          have h1 := (b3.block w.heap.size (by rw [World.size_setCell]; omega)).trans ((Below.heap_setCell _ _ _ _ (by simp)).trans C1.out)
          have h2 := (b3.block (w.heap.size + 1) (by rw [World.size_setCell]; omega)).trans (heap_setCell_same W2 (w.heap.size + 1) 4 _ _ _ C2.out)
          clear q4 f4
          have k0 := cell_of_row W3 (w.heap.size + 1) 0 _ _ (0, 0) h2
          have k1 := cell_of_row W3 (w.heap.size + 1) 1 _ _ (0, 0) h2
          have k2 := cell_of_row W3 (w.heap.size + 1) 2 _ _ (0, 0) h2
          have k3 := cell_of_row W3 (w.heap.size + 1) 3 _ _ (0, 0) h2
          have k4 := cell_of_row W3 (w.heap.size + 1) 4 _ _ (0, 0) h2
          have k5 := cell_of_row W3 (w.heap.size + 1) 5 _ _ (0, 0) h2
          have f4 := fzB h2 4
          have f5 := fzB h2 5
          have c0 := cell_of_row W3 w.heap.size 0 _ _ (0, 0) h1
          have c1' := cell_of_row W3 w.heap.size 1 _ _ (0, 0) h1
          have c2' := cell_of_row W3 w.heap.size 2 _ _ (0, 0) h1
          have c3 := cell_of_row W3 w.heap.size 3 _ _ (0, 0) h1
          have c4 := cell_of_row W3 w.heap.size 4 _ _ (0, 0) h1
          have c5 := cell_of_row W3 w.heap.size 5 _ _ (0, 0) h1
          have j0 := fzB h1 0
          have j1 := fzB h1 1
          have j2 := fzB h1 2
          have j3 := fzB h1 3
          have j4 := fzB h1 4
          have j5 := fzB h1 5
          simp at k0 k1 k2 k3 k4 k5 c0 c1' c2' c3 c4 c5
          have O2 := Lib.hid own2
          have Z3 := Lib.hid hz3
          clear h1 h2 own2 hz hz2 hz3
          go_wp2_with fail
          refine bodyPost_ret (by simp [results, Tryz.results100, go_sem, c0, c1', c2', c3, c4, c5]; try rfl) rfl ?_
          refine ⟨.slice A1 N1 d1, .slice A2 N2 d2, by rw [HT2.out], ?_, ?_, ?_⟩
          · rw [HT2.out]
            refine own_last (X := fun b => b = w.heap.size ∨ b = w.heap.size + 1) O1.out (by rw [HZ.out]; omega) (((Chg.set (Chg.refl _ W2) (Or.inr rfl) _).trans (Chg.of_new b3) (fun _ _ h => h)).trans ?_ (fun _ _ h => h)) (fun b hb => by rw [HZ.out]; omega)
            repeat (refine Chg.set ?_ (by first | exact Or.inl rfl | exact Or.inr rfl) _)
            exact Chg.refl _ _
          · rw [HT2.out]
            refine own_last (X := fun b => b = w.heap.size ∨ b = w.heap.size + 1) O2.out (by rw [World.size_setCell]; have := HZ.out; have := Z2.out; omega) ?_ (fun b hb => by rw [World.size_setCell]; have := HZ.out; have := Z2.out; omega)
            repeat (refine Chg.set ?_ (by first | exact Or.inl rfl | exact Or.inr rfl) _)
            exact Chg.refl _ _
          · have hb3 := bstep (bW2.setCell (p := ⟨w.heap.size + 1, 4, none⟩) (by simp) (.slice A1 N1 d1)) b3
            repeat (refine Below.setCell ?_ (by simp) _)
            exact hb3
      · have HX := Lib.hid (barAt_skip hk1 hlt he H.out)
        have hy : (l[k] == [124]) = false := by simpa using he
        generalize l[k] = y at *
        go_wp2_with fail
        go_roundw
        case rel => exact ⟨by trivial, k + 1, by go_num, by omega, by omega, HX.out⟩
        case measure => simp [intOf]; omega
    · obtain rfl : k = l.length := by omega
      have HX := Lib.hid (barAt_out H.out)
      have k1 : ¬ ((l.length : Int) < (l.length : Int)) := by omega
      have HT2 : Hid (testR l = ⟨at', false, false, false, namesR l.tail, []⟩) := by
        rw [Hid, HT.out, HX.out]
      have P1a : Hid (c = 1 → Calls Tryz.prog 68 #[.slice (some ⟨b, o, none⟩) (l.length - 1) 0] W fun e w' => ∃ v, e = .returned v ∧ Own W.heap.size 9 v ((namesR l.tail).map S) w' ∧ Below W.heap.size W w') := by
        intro hck
        rw [show l.length - 1 = 0 by omega, List.eq_nil_of_length_eq_zero (show l.tail.length = 0 by rw [List.length_tail]; omega)]
        exact rnames_any (some ⟨b, o, none⟩) 0 [] W (RowAt.nil _ _) (by simp) (by simp)
      have p1 := names_part (k := 1) (n := l.length - 1) (c' := c - 1) HR.out HSZ.out (by omega) bW (by omega)
      rw [List.drop_one, List.take_of_length_le (by rw [List.length_tail]; omega)] at p1
      have P1b := Lib.hid p1
      clear H HX HT p1
      go_wp2_with fail
      case' inl => refine (P1a.out (by assumption)).mono ?_
      case' inr => refine P1b.out.mono ?_
      all_goals
        rintro e W2 ⟨v1, rfl, own1, b2'⟩
        obtain ⟨N1, hN1⟩ : ∃ N, (List.map S (namesR l.tail)).length = N := ⟨_, rfl⟩
        obtain ⟨A1, d1, rfl, hd1, _⟩ := own1.row.to hN1
        clear hN1
        have hz := HZ.out
        have hz2 := b2'.size
        have h1 := (b2'.block _ (by omega)).trans HB1.out
        have h2 := (b2'.block _ (by omega)).trans HB2.out
        have k0 := cell_of_row W2 (w.heap.size + 1) 0 _ _ (0, 0) h2
        have k1 := cell_of_row W2 (w.heap.size + 1) 1 _ _ (0, 0) h2
        have k2 := cell_of_row W2 (w.heap.size + 1) 2 _ _ (0, 0) h2
        have k3 := cell_of_row W2 (w.heap.size + 1) 3 _ _ (0, 0) h2
        have k4 := cell_of_row W2 (w.heap.size + 1) 4 _ _ (0, 0) h2
        have k5 := cell_of_row W2 (w.heap.size + 1) 5 _ _ (0, 0) h2
        have f4 := fzB h2 4
        have f5 := fzB h2 5
        have c0 := cell_of_row W2 w.heap.size 0 _ _ (0, 0) h1
        have c1' := cell_of_row W2 w.heap.size 1 _ _ (0, 0) h1
        have c2' := cell_of_row W2 w.heap.size 2 _ _ (0, 0) h1
        have c3 := cell_of_row W2 w.heap.size 3 _ _ (0, 0) h1
        have c4 := cell_of_row W2 w.heap.size 4 _ _ (0, 0) h1
        have c5 := cell_of_row W2 w.heap.size 5 _ _ (0, 0) h1
        have j0 := fzB h1 0
        have j1 := fzB h1 1
        have j2 := fzB h1 2
        have j3 := fzB h1 3
        have j4 := fzB h1 4
        have j5 := fzB h1 5
        simp at k0 k1 k2 k3 k4 k5 c0 c1' c2' c3 c4 c5
        have O1 := Lib.hid own1
        have Z2 := Lib.hid hz2
        clear h1 h2 own1 hz hz2
        go_wp2_with fail
        refine bodyPost_ret (by simp [results, Tryz.results100, go_sem, c0, c1', c2', c3, c4, c5]; try rfl) rfl ?_
        refine ⟨.slice A1 N1 d1, .slice none 0 0, by rw [HT2.out], ?_, ?_, ?_⟩
        · rw [HT2.out]
          refine own_last (X := fun b => b = w.heap.size ∨ b = w.heap.size + 1) O1.out (by rw [HZ.out]; omega) ?_ (fun b hb => by rw [HZ.out]; omega)
          repeat (refine Chg.set ?_ (by first | exact Or.inl rfl | exact Or.inr rfl) _)
          exact Chg.refl _ _
        · rw [HT2.out]; exact Own.nil _ _ _
        · have hb3 := bstep bW b2'
          repeat (refine Below.setCell ?_ (by simp) _)
          exact hb3
end Go.Proofs.YtplipnchkkhdaaaGreatDoor
