/- Walks of layer 33: named, tags, need, unquote, fields. -/
import Derived.Test.YtplipnchkkhdaaaGreatDoorZ02
import Derived.Lib.LaidTab
import Derived.Lib.Join
import Derived.RangeFuncNested
import Derived.RangeFuncBox
import Derived.RangeFuncCalls
import Derived.RangeFuncLeaves
import Derived.WalkKit
import Derived.RangeFuncBound
import Derived.Shelf.Abstract
import Derived.Shelf.RegionOpen
import Derived.OwnWalkIn
import Derived.TacticsInMore
import Derived.LoopNIn
import Derived.LoopIn
import Derived.RecoverIn
import Derived.OneCell
import Derived.Deep.Quiet
namespace Go.Proofs.YtplipnchkkhdaaaGreatDoor
open Go.RowKit
set_option linter.unusedVariables false

theorem tab_below {n : String} {g : Nat} {k : IntKind} {zs : List Int} {w w' : World} {B : Nat} (hg : Tryz.prog.globalNamed n = some g) (hB : g < B) (h : Lib.TabIs Tryz.prog w n k zs) (hb : Below B w w') : Lib.TabIs Tryz.prog w' n k zs := by
  unfold Lib.TabIs World.var? at h ⊢
  rw [hg] at h ⊢
  simp only [Option.bind_some] at h ⊢
  rw [hb.block g hB]; exact h
/-- What the listed variables hold, those of chapter 33. -/
structure TabH (w : World) : Prop where
  t : Tabs w
  rng : ∃ te pe, w.cell? ⟨2, 0, none⟩ = some (.iface te pe)
  mx : ∃ m, w.cell? ⟨3, 0, none⟩ = some (.int .i64 m)
  p10 : Lib.TabIs Tryz.prog w "internal/strconv.uint64pow10" .u64 Lib.pow10Tab
theorem TabH.belowB {w w' : World} {B : Nat} (h : TabH w) (hB : 9 ≤ B) (hb : Below B w w') : TabH w' := by
  obtain ⟨h1, ⟨te, pe, h2⟩, ⟨m, h3⟩, h4⟩ := h
  have key : ∀ {a : Addr} {v : Value}, a.block < 9 → w.cell? a = some v → w'.cell? a = some v := fun {a v} ha hc => (hb.cell (by omega)).trans hc
  exact ⟨h1.belowB hB hb, ⟨te, pe, key (by simp) h2⟩, ⟨m, key (by simp) h3⟩, tab_below (g := 6) (by kernel_rfl) (by omega) h4 hb⟩
theorem TabH.lt {w : World} (h : TabH w) : 9 ≤ w.heap.size := h.t.lt
theorem TabH.below {w w' : World} (h : TabH w) (hb : Below w.heap.size w w') : TabH w' := h.belowB h.lt hb

def wrongP : Ending := .panicked [{ v := .iface 97 (.agg #[]), recovered := false }]
set_option maxHeartbeats 1000000 in
theorem need_yes (w : World) : Calls Tryz.prog 34 #[.bool true] w fun e w' => e = .returned (.tuple #[]) ∧ w = w' := by
  go_enter Tryz.func34, Tryz.ntmps34
  go_wp2_with fail
  go_returns
  exact ⟨rfl, rfl⟩
set_option maxHeartbeats 1000000 in
theorem need_no (w : World) : Calls Tryz.prog 34 #[.bool false] w fun e w' => e = wrongP ∧ w = w' := by
  unfold wrongP
  go_enter Tryz.func34, Tryz.ntmps34
  go_wp2_with fail
  exact ⟨rfl, rfl, rfl⟩
theorem splitE_cases (l : Bs) : splitE l = 0 ∨ splitE l = 2 ∨ splitE l = 3 := by
  unfold splitE splitR
  split
  · exact Or.inr (Or.inl rfl)
  · split
    · exact Or.inr (Or.inr rfl)
    · exact Or.inl rfl
set_option maxHeartbeats 1000000 in
set_option maxRecDepth 100000 in
theorem named1_any (s : ByteArray) (w : World) (hT : Tabs w) :
    Calls Tryz.prog 75 #[.string s] w fun e w' => e = .returned (.bool (!tagOk s.data.toList)) ∧ Below w.heap.size w w' := by
  have hs := split_every s w hT
  unfold SplitPost at hs
  have HK : Hid ((!tagOk s.data.toList) = !(decide (splitE s.data.toList = 0) && !s.data.toList.isEmpty && decide (s.size ≤ 40))) := by unfold Hid tagOk; rw [← Lib.size_eq]
  generalize splitE s.data.toList = E at *
  generalize splitL s.data.toList = L at *
  generalize splitAt s.data.toList = P at *
  by_cases hE : E = 0
  · subst hE
    by_cases he : s.size = 0
    · have hemp := isEmpty_of he
      have HX : Hid ((!tagOk s.data.toList) = true) := by rw [Hid, HK.out, data_nil he]; rfl
      clear he HK
      go_enter Tryz.func75, Tryz.ntmps75
      go_wp2_with fail
      refine hs.mono ?_
      rintro e w1 ⟨A, c, rfl, _, _, hb⟩
      go_wp2_with fail
      go_returns
      exact ⟨by rw [HX.out]; (try rfl), hb⟩
    · have hemp := not_isEmpty_of he
      have hne : s.data.toList.isEmpty = false := isEmpty_false (data_ne he)
      by_cases h40 : s.size ≤ 40
      · have HX : Hid ((!tagOk s.data.toList) = false) := by rw [Hid, HK.out, hne]; simp [h40]
        have h41 : decide ((40 : Int) < (s.size : Int)) = false := decide_eq_false (by omega)
        clear he HK hne
        go_enter Tryz.func75, Tryz.ntmps75
        go_wp2_with fail
        refine hs.mono ?_
        rintro e w1 ⟨A, c, rfl, _, _, hb⟩
        go_wp2_with fail
        go_returns
        exact ⟨by rw [HX.out]; (try rfl), hb⟩
      · have HX : Hid ((!tagOk s.data.toList) = true) := by rw [Hid, HK.out, hne]; simp [h40]
        have h41 : decide ((40 : Int) < (s.size : Int)) = true := decide_eq_true (by omega)
        clear he HK hne h40
        go_enter Tryz.func75, Tryz.ntmps75
        go_wp2_with fail
        refine hs.mono ?_
        rintro e w1 ⟨A, c, rfl, _, _, hb⟩
        go_wp2_with fail
        go_returns
        exact ⟨by rw [HX.out]; (try rfl), hb⟩
  · have hEb : ((E : Int) != 0) = true := by simp; omega
    have HX : Hid ((!tagOk s.data.toList) = true) := by rw [Hid, HK.out]; simp [hE]
    clear hE HK
    go_enter Tryz.func75, Tryz.ntmps75
    go_wp2_with fail
    refine hs.mono ?_
    rintro e w1 ⟨A, c, rfl, _, _, hb⟩
    go_wp2_with fail
    go_returns
    exact ⟨by rw [HX.out]; (try rfl), hb⟩
/-- index of the first string for which the answer is yes, or -1 -/
def idxB (p : Bs → Bool) : List Bs → Int
  | [] => -1
  | x :: r => if p x = true then 0 else let k := idxB p r; if k < 0 then -1 else k + 1
theorem idxB_bd (p : Bs → Bool) : ∀ l : List Bs, -1 ≤ idxB p l ∧ idxB p l ≤ l.length ∧ (idxB p l < 0 ↔ l.any p = false)
  | [] => by simp [idxB]
  | x :: r => by
    have := idxB_bd p r
    unfold idxB
    by_cases hx : p x = true
    · rw [if_pos hx]; simp [hx]; omega
    · rw [if_neg hx]
      simp only
      have hx' : p x = false := by simpa using hx
      rw [List.any_cons, hx', Bool.false_or, List.length_cons]
      by_cases hk : idxB p r < 0
      · rw [if_pos hk]; exact ⟨by omega, by omega, by simp [this.2.2.1 hk]⟩
      · rw [if_neg hk]
        refine ⟨by omega, by omega, ?_⟩
        constructor
        · intro h; omega
        · intro h; exact absurd (this.2.2.2 h) hk
theorem idxB_skip (p : Bs → Bool) : ∀ (l : List Bs) (k : Nat) (hk : k < l.length), (∀ x ∈ l.take k, p x = false) → p l[k] = true → idxB p l = k
  | x :: r, 0, _, _, h => by
    have h' : p x = true := h
    unfold idxB; rw [if_pos h']; rfl
  | x :: r, k + 1, hk, hn, h => by
    have hx : p x = false := hn x (by simp)
    have ih := idxB_skip p r k (by simpa using hk) (fun y hy => hn y (by simp [hy])) h
    unfold idxB
    rw [if_neg (by rw [hx]; decide), ih]
    simp only
    rw [if_neg (by omega)]; rfl
theorem idxB_none (p : Bs → Bool) : ∀ (l : List Bs), (∀ x ∈ l, p x = false) → idxB p l = -1
  | [], _ => rfl
  | x :: r, hn => by
    unfold idxB
    rw [if_neg (by rw [hn x (by simp)]; decide), idxB_none p r (fun y hy => hn y (by simp [hy]))]
    rfl
set_option maxHeartbeats 1000000 in
set_option maxRecDepth 100000 in
theorem index_named (A : Option Addr) (c : Nat) (l : List Bs) (w : World) (hT : Tabs w) (hrow : RowAt w A (l.map S)) (hl : l.length ≤ 1000000000) :
    Calls Tryz.prog 58 #[.slice A l.length c, .func (.func 75) #[] #[]] w fun e w' => e = .returned (.int .i64 (idxB (fun s => !tagOk s) l)) ∧ Below w.heap.size w w' := by
  have HC : Hid (∀ k (hk : k < l.length), ∃ b o, A = some ⟨b, o, none⟩ ∧ b < w.heap.size ∧ w.cell? ⟨b, o + k, none⟩ = some (S l[k])) := by
    intro k hk
    obtain ⟨b, o, rfl, hlt, hc⟩ := hrow (by intro e; have := congrArg List.length e; simp at this; subst this; simp at hk)
    exact ⟨b, o, rfl, hlt, hc k _ (getS hk)⟩
  clear hrow
  go_enter Tryz.func58, Tryz.ntmps58
  go_wp2_with fail
  go_loopw [4, 5, 8] (fun r _ i wr => r = .int .i64 0 ∧ ∃ k : Nat, i = .int .i64 k ∧ k ≤ l.length ∧ Below w.heap.size w wr ∧ Hid (∀ x ∈ l.take k, (fun s => !tagOk s) x = false)) (fun _ _ i _ => l.length - (intOf i).toNat)
  case atStart => exact ⟨rfl, 0, rfl, by omega, Below.refl _ _, by simp [Hid]⟩
  case round =>
    obtain ⟨rfl, k, rfl, hk, hB, HN⟩ := hrel
    by_cases hlt : k < l.length
    · obtain ⟨b, o, rfl, hbl, hcell⟩ := HC.out k hlt
      have hcell2 : wr.cell? ⟨b, o + k, none⟩ = some (.string ⟨l[k].toArray⟩) := (hB.cell (p := ⟨b, o + k, none⟩) hbl).trans hcell
      have k0 : (0 : Int) ≤ (k : Int) := by omega
      have k1 : (k : Int) < (l.length : Int) := by omega
      have p1 := named1_any ⟨l[k].toArray⟩ wr (hT.below hB)
      have HS : Hid ((fun s => !tagOk s) l[k] = false → ∀ x ∈ l.take (k + 1), (fun s => !tagOk s) x = false) := by
        intro h x hx
        rw [List.take_succ_eq_append_getElem hlt] at hx
        rcases List.mem_append.1 hx with hx | hx
        · exact HN.out x hx
        · simp only [List.mem_singleton] at hx; subst hx; exact h
      have HF : Hid ((fun s => !tagOk s) l[k] = true → idxB (fun s => !tagOk s) l = k) := idxB_skip _ l k hlt HN.out
      have hq : (!tagOk (⟨l[k].toArray⟩ : ByteArray).data.toList) = (fun s => !tagOk s) l[k] := rfl
      rw [hq] at p1
      clear hcell hq
      generalize (fun s => !tagOk s) l[k] = q at p1 HS HF
      generalize l[k] = y at hcell2 p1
      go_wp2_with fail
      refine p1.mono ?_
      rintro x wx ⟨rfl, bx⟩
      have hB2 := bstep hB bx
      cases q with
      | true =>
        have HX := Lib.hid (HF.out rfl)
        go_wp2_with fail
        go_returns
        exact ⟨by rw [HX.out]; (try rfl), hB2⟩
      | false =>
        go_wp2_with fail
        go_roundw
        case rel => exact ⟨rfl, k + 1, by go_num, by omega, hB2, HS.out (by simp)⟩
        case measure => simp [intOf]; omega
    · obtain rfl : k = l.length := by omega
      have HX : Hid (idxB (fun s => !tagOk s) l = -1) := idxB_none _ l (by have := HN.out; rwa [List.take_length] at this)
      go_wp2_with fail
      go_returns
      exact ⟨by rw [HX.out]; (try rfl), hB⟩
set_option maxHeartbeats 1000000 in
set_option maxRecDepth 100000 in
theorem contains_named (A : Option Addr) (c : Nat) (l : List Bs) (w : World) (hT : Tabs w) (hrow : RowAt w A (l.map S)) (hl : l.length ≤ 1000000000) :
    Calls Tryz.prog 74 #[.slice A l.length c, .func (.func 75) #[] #[]] w fun e w' => e = .returned (.bool (!l.all tagOk)) ∧ Below w.heap.size w w' := by
  have hi := index_named A c l w hT hrow hl
  obtain ⟨h1, h2, h3⟩ := idxB_bd (fun s => !tagOk s) l
  have HA : Hid (l.any (fun s => !tagOk s) = !l.all tagOk) := by unfold Hid; rw [List.not_all_eq_any_not]
  generalize idxB (fun s => !tagOk s) l = i at *
  by_cases hn : i < 0
  · have HX : Hid ((!l.all tagOk) = false) := by rw [Hid, ← HA.out]; exact h3.1 hn
    have hd : decide (0 ≤ i) = false := decide_eq_false (by omega)
    clear HA h3
    go_enter Tryz.func74, Tryz.ntmps74
    go_wp2_with fail
    refine hi.mono ?_
    rintro x wx ⟨rfl, bx⟩
    go_wp2_with fail
    go_returns
    exact ⟨by rw [HX.out]; (try rfl), bx⟩
  · have HX : Hid ((!l.all tagOk) = true) := by
      rw [Hid, ← HA.out]
      cases h : l.any (fun s => !tagOk s) with
      | true => rfl
      | false => exact absurd (h3.2 h) hn
    have hd : decide (0 ≤ i) = true := decide_eq_true (by omega)
    clear HA h3 hn
    go_enter Tryz.func74, Tryz.ntmps74
    go_wp2_with fail
    refine hi.mono ?_
    rintro x wx ⟨rfl, bx⟩
    go_wp2_with fail
    go_returns
    exact ⟨by rw [HX.out]; (try rfl), bx⟩
set_option maxHeartbeats 1000000 in
set_option maxRecDepth 100000 in
theorem named_any (A : Option Addr) (c : Nat) (l : List Bs) (w : World) (hT : Tabs w) (hrow : RowAt w A (l.map S)) (hl : l.length ≤ 1000000000) :
    Calls Tryz.prog 35 #[.slice A l.length c] w fun e w' => e = .returned (.bool (l.all tagOk)) ∧ Below w.heap.size w w' := by
  have hi := contains_named A c l w hT hrow hl
  generalize l.all tagOk = q at *
  go_enter Tryz.func35, Tryz.ntmps35
  go_wp2_with fail
  refine hi.mono ?_
  rintro x wx ⟨rfl, bx⟩
  go_wp2_with fail
  go_returns
  exact ⟨by simp, bx⟩
set_option maxHeartbeats 1000000 in
set_option maxRecDepth 100000 in
theorem tags_any (A : Option Addr) (c : Nat) (l : List Bs) (w : World) (hT : Tabs w) (hrow : RowAt w A (l.map S)) (hl : l.length ≤ 1000000000) :
    Calls Tryz.prog 37 #[.slice A l.length c] w fun e w' => e = .returned (.bool (tagsOk 1 20 l)) ∧ Below w.heap.size w w' := by
  have hi := named_any A c l w hT hrow hl
  have HK : Hid (tagsOk 1 20 l = (decide (1 ≤ l.length) && decide (l.length ≤ 20) && l.all tagOk)) := rfl
  generalize l.all tagOk = q at *
  generalize l.length = n at *
  by_cases h1 : 1 ≤ n
  · by_cases h2 : n ≤ 20
    · have HX : Hid (tagsOk 1 20 l = q) := by rw [Hid, HK.out]; simp [h1, h2]
      have h3 : (1 : Int) ≤ (n : Int) := by omega
      have h4 : (n : Int) ≤ 20 := by omega
      clear HK
      go_enter Tryz.func37, Tryz.ntmps37
      go_wp2_with fail
      refine hi.mono ?_
      rintro x wx ⟨rfl, bx⟩
      go_wp2_with fail
      go_returns
      exact ⟨by rw [HX.out]; (try rfl), bx⟩
    · have HX : Hid (tagsOk 1 20 l = false) := by rw [Hid, HK.out]; simp [h2]
      have h3 : (1 : Int) ≤ (n : Int) := by omega
      have h4 : (20 : Int) < (n : Int) := by omega
      clear HK hi
      go_enter Tryz.func37, Tryz.ntmps37
      go_wp2_with fail
      go_returns
      exact ⟨by rw [HX.out]; (try rfl), Below.refl _ _⟩
  · have HX : Hid (tagsOk 1 20 l = false) := by rw [Hid, HK.out]; simp [h1]
    have h3 : (n : Int) < 1 := by omega
    clear HK hi
    go_enter Tryz.func37, Tryz.ntmps37
    go_wp2_with fail
    go_returns
    exact ⟨by rw [HX.out]; (try rfl), Below.refl _ _⟩

/- Walks of layer 33: unquote, fields, quote, sign, limited. -/
open Go.RowKit
set_option linter.unusedVariables false

/-- what unquote returns, or the panic -/
def UnqPost (w : World) (l : List Bs) (e : Ending) (w' : World) : Prop :=
  (∀ m, unqAll l = some m → ∃ v, e = .returned v ∧ Own w.heap.size 9 v (m.map S) w' ∧ Below w.heap.size w w') ∧ (unqAll l = none → e = wrongP ∧ Below w.heap.size w w')
theorem unqAll_drop {l : List Bs} {k : Nat} (h : k < l.length) (done : List Bs) {n : Bs} (hn : unquoteL l[k] = some n) (H : unqAll l = (unqAll (l.drop k)).map (done ++ ·)) : unqAll l = (unqAll (l.drop (k + 1))).map ((done ++ [n]) ++ ·) := by
  rw [H, List.drop_eq_getElem_cons h, unqAll, hn]
  cases unqAll (l.drop (k + 1)) with
  | none => rfl
  | some m => simp
theorem unqAll_stop {l : List Bs} {k : Nat} (h : k < l.length) (done : List Bs) (hn : unquoteL l[k] = none) (H : unqAll l = (unqAll (l.drop k)).map (done ++ ·)) : unqAll l = none := by
  rw [H, List.drop_eq_getElem_cons h, unqAll, hn]; rfl
set_option maxHeartbeats 2000000 in
set_option maxRecDepth 100000 in
theorem unquotes_any (A : Option Addr) (c : Nat) (l : List Bs) (w : World) (hT : Tabs w) (hrow : RowAt w A (l.map S)) (hl : l.length ≤ 1000000000) (hsz : ∀ x ∈ l, x.length ≤ 1000000000) :
    Calls Tryz.prog 33 #[.slice A l.length c] w (UnqPost w l) := by
  obtain ⟨i0, hi, hz0, hz1, hz2⟩ := info_parts strInfo
  have HC : Hid (∀ k (hk : k < l.length), ∃ b o, A = some ⟨b, o, none⟩ ∧ b < w.heap.size ∧ w.cell? ⟨b, o + k, none⟩ = some (S l[k])) := by
    intro k hk
    obtain ⟨b, o, rfl, hlt, hc⟩ := hrow (by intro e; have := congrArg List.length e; simp at this; subst this; simp at hk)
    exact ⟨b, o, rfl, hlt, hc k _ (getS hk)⟩
  clear hrow
  go_enter Tryz.func33, Tryz.ntmps33
  go_wp2_with fail
  go_loopw [3, 5, 6, 7, 10] (fun v _ _ _ i wr => ∃ (k : Nat) (done : List Bs), i = .int .i64 k ∧ k ≤ l.length ∧ done.length = k ∧ Own w.heap.size 9 v (done.map S) wr ∧ Below w.heap.size w wr ∧ Hid (unqAll l = (unqAll (l.drop k)).map (done ++ ·))) (fun _ _ _ _ i _ => l.length - (intOf i).toNat)
  case atStart => exact ⟨0, [], rfl, by omega, rfl, Own.nil _ _ _, Below.refl _ _, by cases h : unqAll l <;> simp [Hid, h]⟩
  case round =>
    obtain ⟨k, done, rfl, hk, hdk, hown, hB, H⟩ := hrel
    by_cases hlt : k < l.length
    · obtain ⟨b, o, rfl, hbl, hcell⟩ := HC.out k hlt
      have hcell2 : wr.cell? ⟨b, o + k, none⟩ = some (.string ⟨l[k].toArray⟩) := (hB.cell (p := ⟨b, o + k, none⟩) hbl).trans hcell
      have k0 : (0 : Int) ≤ (k : Int) := by omega
      have k1 : (k : Int) < (l.length : Int) := by omega
      have hs1 : l[k].length ≤ 1000000000 := hsz _ (List.getElem_mem _)
      have p1 := unquote_any ⟨l[k].toArray⟩ wr (hT.below hB) (by rw [Lib.size_eq]; exact hs1)
      have hq : (⟨l[k].toArray⟩ : ByteArray).data.toList = l[k] := rfl
      rw [hq] at p1
      have ml : (done.map S).length + 1 ≤ maxLen := by rw [List.length_map]; unfold maxLen; omega
      have mb : ((done.map S).length + 1) * 16 ≤ 140737488355328 := by rw [List.length_map]; omega
      have HD := Lib.hid hdk
      cases hu : unquoteL l[k] with
      | none =>
        have HX := Lib.hid (unqAll_stop hlt done hu H.out)
        have p2 := need_no
        rw [hu] at p1
        clear hu hq hcell HC hdk hs1
        generalize l[k] = y at hcell2 p1
        go_wp2_with fail
        refine p1.mono ?_
        rintro x wx ⟨rfl, bx⟩
        go_wp2_with fail
        refine (p2 _).mono ?_
        unfold wrongP
        rintro x wy ⟨rfl, rfl⟩
        refine ⟨rfl, ?_⟩
        unfold UnqPost wrongP
        exact ⟨fun m hm => (by rw [HX.out] at hm; cases hm), fun _ => ⟨rfl, bstep hB bx⟩⟩
      | some n =>
        have HX := Lib.hid (unqAll_drop hlt done hu H.out)
        have p2 := need_yes
        rw [hu] at p1
        have e1 : (⟨(unqS (some n)).toArray⟩ : ByteArray) = ⟨n.toArray⟩ := rfl
        have e2 : unqE (some n) = 0 := rfl
        rw [e1, e2] at p1
        clear hu hq hcell HC hdk hs1 e1 e2
        generalize l[k] = y at hcell2 p1
        go_wp2_with fail
        refine p1.mono ?_
        rintro x wx ⟨rfl, bx⟩
        have hown2 := hown.below bx
        have hB2 := bstep hB bx
        go_wp2_with fail
        refine (p2 _).mono ?_
        rintro x wy ⟨rfl, rfl⟩
        go_wp2_with (at_builtin; refine wpList_app1 rfl (.tmp 22) (.tmp 24) 31 rfl w.heap.size i0 _ 16 Tryz.underlying31 hi hz0 hz1 hz2 rfl _ (done.map S) rfl hown2 1 rfl rfl ml mb hB2.size ?_; intro v' w2 hown4 hg hb2)
        go_roundw
        case rel => exact ⟨k + 1, done ++ [n], by go_num, by omega, by rw [List.length_append, HD.out]; rfl, by rw [List.map_append]; exact hown4, hB2.trans hb2, HX.out⟩
        case measure => simp [intOf]; omega
    · obtain rfl : k = l.length := by omega
      have HX : Hid (unqAll l = some done) := by
        have := H.out
        rw [List.drop_length] at this
        rw [Hid, this]; simp [unqAll]
      go_wp2_with fail
      go_returns
      exact ⟨fun m hm => (by rw [HX.out] at hm; cases hm; exact ⟨_, rfl, hown, hB⟩), fun hm => (by rw [HX.out] at hm; cases hm)⟩
/-! ### fields -/
theorem take_next (s : ByteArray) {f i : Nat} (h : i < s.size) (hf : f ≤ i) : (s.data.toList.drop f).take (i + 1 - f) = (s.data.toList.drop f).take (i - f) ++ [s[i]] := by
  have h1 : i - f < (s.data.toList.drop f).length := by rw [List.length_drop, ← Lib.size_eq]; omega
  rw [show i + 1 - f = (i - f) + 1 by omega, List.take_succ_eq_append_getElem h1]
  congr 1
  rw [List.getElem_drop]
  congr 1
  simp only [show f + (i - f) = i by omega]
  rfl
theorem fields_plain (s : ByteArray) {f i : Nat} {done : List Bs} (h : i < s.size) (hf : f ≤ i) (h1 : s[i] ≠ 37) (h2 : s[i] ≠ 32) (H : wordsL s.data.toList = done ++ wordsGo ((s.data.toList.drop f).take (i - f)) (s.data.toList.drop i)) :
    wordsL s.data.toList = done ++ wordsGo ((s.data.toList.drop f).take (i + 1 - f)) (s.data.toList.drop (i + 1)) := by
  rw [H, drop_byte s i h, wordsGo_plain h1 h2, take_next s h hf]
theorem fields_space (s : ByteArray) {f i : Nat} {done : List Bs} (h : i < s.size) (h2 : s[i] = 32) (H : wordsL s.data.toList = done ++ wordsGo ((s.data.toList.drop f).take (i - f)) (s.data.toList.drop i)) :
    wordsL s.data.toList = (done ++ [(s.data.toList.drop f).take (i - f)]) ++ wordsGo ((s.data.toList.drop (i + 1)).take (i + 1 - (i + 1))) (s.data.toList.drop (i + 1)) := by
  rw [H, drop_byte s i h, h2, wordsGo_space]; simp
theorem fields_pct (s : ByteArray) {f i : Nat} {done : List Bs} (h : i < s.size) (hf : f ≤ i) (h2 : s[i] = 37) (H : wordsL s.data.toList = done ++ wordsGo ((s.data.toList.drop f).take (i - f)) (s.data.toList.drop i)) :
    wordsL s.data.toList = done ++ wordsGo ((s.data.toList.drop f).take (i + 2 - f)) (s.data.toList.drop (i + 2)) := by
  rw [H, drop_byte s i h, h2]
  by_cases h3 : i + 1 < s.size
  · rw [drop_byte s (i + 1) h3, wordsGo_two]
    have e := take_next s h3 (show f ≤ i + 1 by omega)
    rw [take_next s h hf, h2] at e
    rw [show i + 2 - f = i + 1 + 1 - f by omega, e]; simp
  · have e0 : s.data.toList.drop (i + 1) = [] := List.drop_eq_nil_of_le (by rw [← Lib.size_eq]; omega)
    have e1 : s.data.toList.drop (i + 2) = [] := List.drop_eq_nil_of_le (by rw [← Lib.size_eq]; omega)
    rw [e0, e1, wordsGo_lone, wordsGo_nil]
    have e := take_next s h hf
    rw [h2] at e
    have e3 : (s.data.toList.drop f).take (i + 2 - f) = (s.data.toList.drop f).take (i + 1 - f) := by
      rw [List.take_of_length_le (by rw [List.length_drop, ← Lib.size_eq]; omega), List.take_of_length_le (by rw [List.length_drop, ← Lib.size_eq]; omega)]
    rw [e3, e]
theorem fields_end (s : ByteArray) {f i : Nat} {done : List Bs} (h : s.size ≤ i) (H : wordsL s.data.toList = done ++ wordsGo ((s.data.toList.drop f).take (i - f)) (s.data.toList.drop i)) :
    wordsL s.data.toList = done ++ [s.data.toList.drop f] := by
  rw [H, List.drop_eq_nil_of_le (show s.data.toList.length ≤ i by rw [← Lib.size_eq]; exact h), wordsGo_nil, List.take_of_length_le (by rw [List.length_drop, ← Lib.size_eq]; omega)]
theorem u8_beq {c d : UInt8} : (((c.toNat : Nat) : Int) == ((d.toNat : Nat) : Int)) = decide (c = d) := by
  by_cases h : c = d
  · subst h; simp
  · rw [decide_eq_false h, beq_eq_false_iff_ne]
    intro e
    exact h (UInt8.toNat_inj.1 (by omega))
set_option maxHeartbeats 2000000 in
set_option maxRecDepth 100000 in
theorem fields_any (s : ByteArray) (w : World) (hs : s.size ≤ 1000000) :
    Calls Tryz.prog 36 #[.string s] w fun e w' => ∃ v, e = .returned v ∧ Own w.heap.size 9 v ((wordsL s.data.toList).map S) w' ∧ Below w.heap.size w w' := by
  obtain ⟨i0, hi, hz0, hz1, hz2⟩ := info_parts strInfo
  go_enter Tryz.func36, Tryz.ntmps36
  go_wp2_with fail
  go_loopw [3, 4, 5, 15, 19] (fun v fr i _ _ wr => ∃ (f k : Nat) (done : List Bs), i = .int .i64 k ∧ fr = .int .i64 f ∧ f ≤ k ∧ f ≤ s.size ∧ k ≤ s.size + 1 ∧ done.length ≤ f ∧ Own w.heap.size 9 v (done.map S) wr ∧ Below w.heap.size w wr ∧ Hid (wordsL s.data.toList = done ++ wordsGo ((s.data.toList.drop f).take (k - f)) (s.data.toList.drop k))) (fun _ _ i _ _ _ => s.size + 1 - (intOf i).toNat)
  case atStart => exact ⟨0, 0, [], rfl, rfl, by omega, by omega, by omega, by simp, Own.nil _ _ _, Below.refl _ _, by simp [Hid, wordsL]⟩
  case round =>
    obtain ⟨f, k, done, rfl, rfl, hf, hfs, hk, hdl, hown, hB, H⟩ := hrel
    have ml : (done.map S).length + 1 ≤ maxLen := by rw [List.length_map]; unfold maxLen; omega
    have mb : ((done.map S).length + 1) * 16 ≤ 140737488355328 := by rw [List.length_map]; omega
    by_cases hlt : k < s.size
    · have k0 : (0 : Int) ≤ (k : Int) := by omega
      have k1 : (k : Int) < (s.size : Int) := by omega
      have f0 : (0 : Int) ≤ (f : Int) := by omega
      have f1 : (f : Int) ≤ (k : Int) := by omega
      have b37 := u8_beq (c := s[k]) (d := 37)
      have b32 := u8_beq (c := s[k]) (d := 32)
      rw [show (((37 : UInt8).toNat : Nat) : Int) = 37 from rfl] at b37
      rw [show (((32 : UInt8).toNat : Nat) : Int) = 32 from rfl] at b32
      by_cases h37 : s[k] = 37
      · have HX := Lib.hid (fields_pct s hlt hf h37 H.out)
        rw [decide_eq_true h37] at b37
        clear h37 b32
        go_wp2_with fail
        go_roundw
        case rel => exact ⟨f, k + 2, done, by go_num, rfl, by omega, hfs, by omega, hdl, hown, hB, HX.out⟩
        case measure => simp [intOf]; omega
      · rw [decide_eq_false h37] at b37
        by_cases h32 : s[k] = 32
        · have HX := Lib.hid (fields_space s hlt h32 H.out)
          rw [decide_eq_true h32] at b32
          have HE : Hid (Value.string (s.extract f k) = S ((s.data.toList.drop f).take (k - f))) := by unfold Hid; rw [← S_data, ext_data]
          clear h37 h32
          go_wp2_with (at_builtin; refine wpList_app1 rfl (.tmp 21) (.tmp 26) 31 rfl w.heap.size i0 _ 16 Tryz.underlying31 hi hz0 hz1 hz2 rfl _ (done.map S) rfl hown 1 rfl rfl ml mb hB.size ?_; intro v' w2 hown4 hg hb2)
          go_roundw
          case rel => exact ⟨k + 1, k + 1, done ++ [(s.data.toList.drop f).take (k - f)], by go_num, by go_num, by omega, by omega, by omega, by simp; omega, by rw [List.map_append]; rw [HE.out] at hown4; exact hown4, hB.trans hb2, HX.out⟩
          case measure => simp [intOf]; omega
        · have HX := Lib.hid (fields_plain s hlt hf h37 h32 H.out)
          rw [decide_eq_false h32] at b32
          clear h37 h32
          go_wp2_with fail
          go_roundw
          case rel => exact ⟨f, k + 1, done, by go_num, rfl, by omega, hfs, by omega, hdl, hown, hB, HX.out⟩
          case measure => simp [intOf]; omega
    · have HX := Lib.hid (fields_end s (by omega) H.out)
      have HE : Hid (Value.string (s.extract f s.size) = S (s.data.toList.drop f)) := by unfold Hid; rw [← S_data, ext_data, List.take_of_length_le (by rw [List.length_drop, ← Lib.size_eq]; omega)]
      have k1 : (s.size : Int) ≤ (k : Int) := by omega
      have f0 : (0 : Int) ≤ (f : Int) := by omega
      have f1 : (f : Int) ≤ (s.size : Int) := by omega
      go_wp2_with (at_builtin; refine wpList_app1 rfl (.tmp 30) (.tmp 34) 31 rfl w.heap.size i0 _ 16 Tryz.underlying31 hi hz0 hz1 hz2 rfl _ (done.map S) rfl hown 1 rfl rfl ml mb hB.size ?_; intro v' w2 hown4 hg hb2)
      go_returns
      exact ⟨v', rfl, by rw [HX.out, List.map_append]; rw [HE.out] at hown4; exact hown4, hB.trans hb2⟩
/-! ### small ones -/
set_option maxHeartbeats 1000000 in
theorem sign_any (b : Bool) (s : ByteArray) (w : World) : Calls Tryz.prog 89 #[.bool b, .string s] w fun e w' => e = .returned (.string ⟨(optL b s.data.toList).toArray⟩) ∧ w = w' := by
  cases b with
  | true =>
    have HX : Hid ((⟨(optL true s.data.toList).toArray⟩ : ByteArray) = s) := rfl
    go_enter Tryz.func89, Tryz.ntmps89
    go_wp2_with fail
    go_returns
    exact ⟨by rw [HX.out]; (try rfl), rfl⟩
  | false =>
    go_enter Tryz.func89, Tryz.ntmps89
    go_wp2_with fail
    go_returns
    exact ⟨rfl, rfl⟩
def limL (l : Bs) : Bs × Nat := if 16384 < l.length then ([], 2) else (l, 0)
set_option maxHeartbeats 1000000 in
theorem limited_any (s : ByteArray) (w : World) : Calls Tryz.prog 45 #[.string s] w fun e w' => e = .returned (.tuple #[.string ⟨(limL s.data.toList).1.toArray⟩, .int .i64 (limL s.data.toList).2]) ∧ w = w' := by
  by_cases h : 16384 < s.size
  · have HX : Hid (limL s.data.toList = ([], 2)) := by unfold Hid limL; rw [if_pos (by rw [← Lib.size_eq]; exact h)]
    have h1 : (16384 : Int) < (s.size : Int) := by omega
    clear h
    go_enter Tryz.func45, Tryz.ntmps45
    go_wp2_with fail
    go_returns
    exact ⟨by rw [HX.out]; (try rfl), rfl⟩
  · have HX : Hid (limL s.data.toList = (s.data.toList, 0)) := by unfold Hid limL; rw [if_neg (by rw [← Lib.size_eq]; exact h)]
    have h1 : (s.size : Int) ≤ 16384 := by omega
    clear h
    go_enter Tryz.func45, Tryz.ntmps45
    go_wp2_with fail
    go_returns
    exact ⟨by rw [HX.out]; (try rfl), rfl⟩
/-- strings.Join with a space -/
theorem join_space : ∀ l : List Bs, Lib.join l [32] = joinS l
  | [] => rfl
  | [x] => by simp [Lib.join, joinS]
  | x :: y :: r => by
    have ih := join_space (y :: r)
    simp [Lib.join, joinS] at ih ⊢
    exact ih
theorem joins_any (A : Option Addr) (c : Nat) (l : List Bs) (w : World) (hrow : RowAt w A (l.map S)) (hc : l.length ≤ c) (hl : l.length ≤ 1000) (hf : (joinS l).length ≤ 1000000) :
    Calls Tryz.prog 84 #[.slice A l.length c, .string ⟨#[32]⟩] w fun e w' => e = .returned (.string ⟨(joinS l).toArray⟩) ∧ Below w.heap.size w w' := by
  cases l with
  | nil =>
    refine (Tryz.strings_Join_none A c ⟨#[32]⟩ w).mono ?_
    rintro e w' ⟨rfl, rfl⟩
    exact ⟨rfl, Below.refl _ _⟩
  | cons x r =>
    obtain ⟨b, o, rfl, hbl, hcell⟩ := hrow (by simp)
    have hm : (((x :: r).map fun p : Bs => (⟨p.toArray⟩ : ByteArray)).map (·.data.toList)) = x :: r := by
      rw [List.map_map]
      conv => rhs; rw [← List.map_id (x :: r)]
      apply List.map_congr_left
      intro a _; rfl
    have he : (⟨#[32]⟩ : ByteArray).data.toList = [32] := rfl
    have hj := Tryz.strings_Join b o c ((x :: r).map fun p : Bs => (⟨p.toArray⟩ : ByteArray)) ⟨#[32]⟩ w (fun j y hy => hcell j _ (by
        rw [List.getElem?_map] at hy ⊢
        cases hx : (x :: r)[j]? with
        | none => rw [hx] at hy; cases hy
        | some p => rw [hx] at hy; simp only [Option.map_some, Option.some.injEq] at hy; rw [← hy]; rfl)) hbl (by rw [List.length_map]; omega) (by rw [List.length_map]; exact hc)
      (by rw [hm, he, join_space]; omega)
    rw [hm, he, join_space, List.length_map] at hj
    exact hj
theorem quote_len (n : Bs) : (quoteL n).length ≤ 5 * n.length + 2 := by
  have key : ∀ ps : List Bs, (∀ p ∈ ps, p ≠ []) → (ps.flatMap unitP).length ≤ 5 * ps.flatten.length := by
    intro ps
    induction ps with
    | nil => intro _; simp
    | cons t r ih =>
      intro h
      have h1 := unitP_len t
      have h2 := ih (fun p hp => h p (List.mem_cons_of_mem _ hp))
      have h3 := List.length_pos_iff.2 (h t List.mem_cons_self)
      rw [List.flatMap_cons, List.flatten_cons, List.length_append, List.length_append]
      omega
  unfold quoteL
  split
  · simp
  · have := key (pieces n) (pieces_ne n)
    rw [pieces_flat] at this
    unfold quoteP
    omega
theorem joinS_len : ∀ (l : List Bs) (b : Nat), (∀ x ∈ l, x.length ≤ b) → (joinS l).length ≤ l.length * (b + 1)
  | [], b, _ => by simp [joinS]
  | [x], b, h => by have := h x List.mem_cons_self; simp [joinS]; omega
  | x :: y :: r, b, h => by
    have h1 := h x List.mem_cons_self
    have ih := joinS_len (y :: r) b (fun z hz => h z (List.mem_cons_of_mem _ hz))
    rw [joinS, List.length_append, List.length_cons, List.length_cons (a := x), Nat.add_mul]
    omega
/-- small enough to be written -/
def Few (l : List Bs) : Prop := l.length ≤ 20 ∧ ∀ x ∈ l, x.length ≤ 40
theorem quoted_len {l : List Bs} (h : Few l) : (quotedL l).length ≤ 5000 := by
  have := joinS_len (l.map quoteL) 202 (fun x hx => by
    obtain ⟨n, hn, rfl⟩ := List.mem_map.1 hx
    have := quote_len n
    have := h.2 n hn
    omega)
  unfold quotedL
  rw [List.length_map] at this
  have := h.1
  have : l.length * (202 + 1) ≤ 20 * 203 := Nat.mul_le_mul h.1 (Nat.le_refl _)
  omega
theorem few_of_tags {lo : Nat} {l : List Bs} (h : tagsOk lo 20 l = true) : Few l := by
  unfold tagsOk at h
  simp only [Bool.and_eq_true, decide_eq_true_eq, List.all_eq_true] at h
  refine ⟨h.1.2, fun x hx => ?_⟩
  have := h.2 x hx
  unfold tagOk at this
  simp only [Bool.and_eq_true, decide_eq_true_eq] at this
  exact this.2
set_option maxHeartbeats 2000000 in
set_option maxRecDepth 100000 in
theorem quotes_any (A : Option Addr) (c : Nat) (l : List Bs) (w : World) (hT : Tabs w) (hrow : RowAt w A (l.map S)) (hF : Few l) :
    Calls Tryz.prog 44 #[.slice A l.length c] w fun e w' => e = .returned (.string ⟨(quotedL l).toArray⟩) ∧ Below w.heap.size w w' := by
  obtain ⟨i0, hi, hz0, hz1, hz2⟩ := info_parts strInfo
  have HC : Hid (∀ k (hk : k < l.length), ∃ b o, A = some ⟨b, o, none⟩ ∧ b < w.heap.size ∧ w.cell? ⟨b, o + k, none⟩ = some (S l[k])) := by
    intro k hk
    obtain ⟨b, o, rfl, hlt, hc⟩ := hrow (by intro e; have := congrArg List.length e; simp at this; subst this; simp at hk)
    exact ⟨b, o, rfl, hlt, hc k _ (getS hk)⟩
  have hll := hF.1
  have HQ := Lib.hid (quoted_len hF)
  clear hrow
  go_enter Tryz.func44, Tryz.ntmps44
  go_wp2_with fail
  go_loopw [3, 5, 8] (fun v _ i wr => ∃ (k : Nat), i = .int .i64 k ∧ k ≤ l.length ∧ Own w.heap.size 9 v (((l.take k).map quoteL).map S) wr ∧ Below w.heap.size w wr) (fun _ _ i _ => l.length - (intOf i).toNat)
  case atStart => exact ⟨0, rfl, by omega, Own.nil _ _ _, Below.refl _ _⟩
  case round =>
    obtain ⟨k, rfl, hk, hown, hB⟩ := hrel
    by_cases hlt : k < l.length
    · obtain ⟨b, o, rfl, hbl, hcell⟩ := HC.out k hlt
      have hcell2 : wr.cell? ⟨b, o + k, none⟩ = some (.string ⟨l[k].toArray⟩) := (hB.cell (p := ⟨b, o + k, none⟩) hbl).trans hcell
      have k0 : (0 : Int) ≤ (k : Int) := by omega
      have k1 : (k : Int) < (l.length : Int) := by omega
      have hs1 : l[k].length ≤ 40 := hF.2 _ (List.getElem_mem _)
      have p1 := quote_any ⟨l[k].toArray⟩ wr (hT.below hB) (by rw [Lib.size_eq]; show 5 * l[k].length ≤ _; omega)
      have hq : (⟨l[k].toArray⟩ : ByteArray).data.toList = l[k] := rfl
      rw [hq] at p1
      have hlen : (((l.take k).map quoteL).map S).length = k := by simp; omega
      have ml : (((l.take k).map quoteL).map S).length + 1 ≤ maxLen := by rw [hlen]; unfold maxLen; omega
      have mb : ((((l.take k).map quoteL).map S).length + 1) * 16 ≤ 140737488355328 := by rw [hlen]; omega
      have HS : Hid (((l.take (k + 1)).map quoteL).map S = ((l.take k).map quoteL).map S ++ [S (quoteL l[k])]) := by
        rw [Hid, List.take_succ_eq_append_getElem hlt, List.map_append, List.map_append]; rfl
      clear hq hcell hs1 hlen
      generalize l[k] = y at hcell2 p1 HS
      go_wp2_with fail
      refine p1.mono ?_
      rintro x wx ⟨rfl, bx⟩
      have hown2 := hown.below bx
      have hB2 := bstep hB bx
      go_wp2_with (at_builtin; refine wpList_app1 rfl (.tmp 12) (.tmp 15) 31 rfl w.heap.size i0 _ 16 Tryz.underlying31 hi hz0 hz1 hz2 rfl _ (((l.take k).map quoteL).map S) rfl hown2 1 rfl rfl ml mb hB2.size ?_; intro v' w2 hown4 hg hb2)
      go_roundw
      case rel => exact ⟨k + 1, by go_num, by omega, by rw [HS.out]; exact hown4, hB2.trans hb2⟩
      case measure => simp [intOf]; omega
    · obtain rfl : k = l.length := by omega
      have hown3 := hown
      rw [List.take_length] at hown3
      obtain ⟨A2, c2, rfl, hc2, hr2⟩ := hown3.row.to (n := l.length) (by simp)
      have hj : Calls Tryz.prog 84 #[.slice A2 l.length c2, .string ⟨#[32]⟩] wr fun e w' => e = .returned (.string ⟨(quotedL l).toArray⟩) ∧ Below wr.heap.size wr w' := by
        have := joins_any A2 c2 (l.map quoteL) wr hr2 (by rw [List.length_map]; exact hc2) (by rw [List.length_map]; omega) (by have := HQ.out; unfold quotedL at this; omega)
        rwa [List.length_map] at this
      clear hown hown3 hr2
      go_wp2_with fail
      refine hj.mono ?_
      rintro x wx ⟨rfl, bx⟩
      go_wp2_with fail
      go_returns
      exact ⟨rfl, bstep hB bx⟩

/- A range over a function whose body may end in a panic: the laws of the walk, for a function whose number is known. -/
open Go Go.RowKit
set_option linter.unusedVariables false
variable {P : Program} {F : Fence} {n : Nat}

/-- what is asked at a round's end; a panic leaves the round by the panic -/
def roundPostP (P : Program) (l : Nat) (R : Ending → World → Prop) : Exit → Act → World → Prop
  | .normal, _, w => ∃ v w', (Instr.endRound l none).run P w = .ok v w' ∧ R (.returned v) w'
  | .ret, _, w => ∃ v w', (Instr.endRound l (some .ret)).run P w = .ok v w' ∧ R (.returned v) w'
  | .exit id, _, w => ∃ v w', (Instr.endRound l (some (.exit id))).run P w = .ok v w' ∧ R (.returned v) w'
  | .goto t, _, w => ∃ v w', (Instr.endRound l (some (.goto t))).run P w = .ok v w' ∧ R (.returned v) w'
  | .panic ch, a, w => a.defers = [] ∧ R (.panicked ch) w
  | .outgrown, _, _ => False

/-- one round, out of its body's walk; the function exists -/
theorem roundIn_of_wpInP {l : Nat} {f : FuncId} {fn : Func} {tmps : Array Value} {assign body : Code} {w : World} {R : Ending → World → Prop} (hF : F.fn f) (hfn : P.funcs[f]? = some fn)
    (h : assign.wpIn (F.inRound l) n P (Exit.then (fun a₁ w₁ => ∃ w₂, (Instr.beginRound l).run P w₁ = .ok () w₂ ∧ body.wpIn (F.inRound l) n P (roundPostP P l R) a₁ w₂) (fun _ _ _ => False))
      { tmps := tmps, defers := [] } w) :
    RoundIn F n P l f tmps assign body w R := by
  refine ⟨hF, fun c cs hr => ?_⟩
  let b : Frame := { (default : Frame) with fn := f, kind := .normal, roundOf := some l }
  have hb0 : Frame.round l f tmps assign body .normal = b.atR { tmps := tmps, defers := [] } [.code assign, .beginRound, .code body] := by
    simp [Frame.round, Frame.atR, b]
  have hr' : (F.inRound l).room ((c :: cs).length + 1 + n) := hr
  have hF' : (F.inRound l).fn b.fn := hF
  obtain ⟨e, a₁, w₁, hq, harr⟩ := h b [.beginRound, .code body] (c :: cs) rfl hF' hr'
  rw [← hb0] at harr
  cases e with
  | normal =>
    obtain ⟨w₂, hbr, hbody⟩ := hq
    have s1 : StepsIn (Machine.fenced P (F.inRound l)) P (lone (b.atR a₁ [.beginRound, .code body]) (c :: cs) w₁) (lone (b.atR a₁ [.code body]) (c :: cs) w₂) :=
      .one (fenced_calm (fr := b.atR a₁ [.beginRound, .code body]) hF' hr' rfl) (stepR_beginRound rfl hbr)
    obtain ⟨e₂, a₂, w₃, hq₂, harr₂⟩ := hbody b [] (c :: cs) rfl hF' hr'
    cases e₂ with
    | normal =>
      obtain ⟨v, w₄, hend, hR⟩ := hq₂
      exact ⟨.returned v, w₄, hR, (StepsIn.trans harr s1).trans (StepsIn.trans harr₂ (.one (fenced_calm (fr := b.atR a₂ []) hF' hr' rfl) (stepR_round_end rfl rfl hend)))⟩
    | ret =>
      obtain ⟨v, w₄, hend, hR⟩ := hq₂
      obtain ⟨k₁, hs⟩ := harr₂.2 rfl
      exact ⟨.returned v, w₄, hR, (StepsIn.trans harr s1).trans (StepsIn.trans hs (.one (fenced_calm (fr := b.atR a₂ (.code .ret :: k₁)) hF' hr' rfl) (stepR_round_ret rfl rfl hend)))⟩
    | exit id =>
      obtain ⟨v, w₄, hend, hR⟩ := hq₂
      obtain ⟨k₁, hk, hs⟩ := harr₂.2 rfl rfl
      exact ⟨.returned v, w₄, hR, (StepsIn.trans harr s1).trans (StepsIn.trans hs (.one (fenced_calm (fr := b.atR a₂ (.code (.exit id) :: k₁)) hF' hr' rfl) (stepR_round_exit rfl rfl hk hend)))⟩
    | goto t =>
      obtain ⟨v, w₄, hend, hR⟩ := hq₂
      obtain ⟨k₁, hk, hs⟩ := harr₂.2 rfl rfl
      exact ⟨.returned v, w₄, hR, (StepsIn.trans harr s1).trans (StepsIn.trans hs (.one (fenced_calm (fr := b.atR a₂ (.code (.goto t) :: k₁)) hF' hr' rfl) (stepR_round_goto rfl rfl hk hend)))⟩
    | panic chain =>
      obtain ⟨hd, hR⟩ := hq₂
      obtain ⟨todo, hs⟩ := harr₂
      have hleave : Frame.leaving P { b.atR a₂ todo with mode := .panicking chain } w₃ (.panicked chain) := ⟨rfl, hd, fn, hfn⟩
      have hin : (lone { b.atR a₂ todo with mode := .panicking chain } (c :: cs) w₃).fenced P (F.inRound l) := fenced_leaving (n := n) hF' hr' hleave
      exact ⟨.panicked chain, w₃, hR, (StepsIn.trans harr s1).trans (StepsIn.trans hs (.one hin (step_leave_panicked hleave)))⟩
    | outgrown => exact hq₂.elim
  | exit id => exact hq.elim
  | goto t => exact hq.elim
  | ret => exact hq.elim
  | panic chain => exact hq.elim
  | outgrown => exact hq.elim

/-- a code's walk in a frame of function f -/
def wpFn (f : FuncId) (F : Fence) (n : Nat) (P : Program) (c : Code) (Q : Exit → Act → World → Prop) (a : Act) (w : World) : Prop :=
  ∀ (b : Frame) (k : List Item) (cs : List Frame), b.fn = f → b.roundOf = F.round → F.fn b.fn → F.room (cs.length + 1 + n) →
    ∃ e a' w', Q e a' w' ∧ ArrivesIn (Machine.fenced P F) P (lone (b.atR a (.code c :: k)) cs w) b k cs e a' w'
theorem wpFn_of {f : FuncId} {c : Code} {Q : Exit → Act → World → Prop} {a : Act} {w : World} (h : c.wpIn F n P Q a w) : wpFn f F n P c Q a w :=
  fun b k cs _ hro hb hr => h b k cs hro hb hr
theorem wpFn_seq {f : FuncId} {x y : Code} {Q : Exit → Act → World → Prop} {a : Act} {w : World} (h : wpFn f F n P x (Exit.then (wpFn f F n P y Q) Q) a w) : wpFn f F n P (Code.seq x y) Q a w := by
  intro b k cs hf hro hb hr
  have h0 : (lone (b.atR a (.code (.seq x y) :: k)) cs w).fenced P F := fenced_calm hb hr rfl
  obtain ⟨e, a₁, w₁, hq, harr⟩ := h b (.code y :: k) cs hf hro hb hr
  cases e with
  | normal =>
    obtain ⟨e₂, a₂, w₂, hq₂, harr₂⟩ := hq b k cs hf hro hb hr
    exact ⟨e₂, a₂, w₂, hq₂, .of_steps (.head h0 stepR_seq harr) harr₂⟩
  | exit id => exact ⟨_, a₁, w₁, hq, .of_steps (.one h0 stepR_seq) (.pass (x := .code y) rfl (fun _ _ => .inl (by simp)) harr)⟩
  | goto l => exact ⟨_, a₁, w₁, hq, .of_steps (.one h0 stepR_seq) (.pass (x := .code y) rfl (fun _ _ => .inl (by simp)) harr)⟩
  | ret => exact ⟨_, a₁, w₁, hq, .of_steps (.one h0 stepR_seq) (.pass (x := .code y) rfl (fun _ _ => .inl (by simp)) harr)⟩
  | panic ch => exact ⟨_, a₁, w₁, hq, .of_steps (.one h0 stepR_seq) (.pass (x := .code y) rfl (fun _ _ => .inl (by simp)) harr)⟩
  | outgrown => exact ⟨_, a₁, w₁, hq, .of_steps (.one h0 stepR_seq) (.pass (x := .code y) rfl (fun _ _ => .inl (by simp)) harr)⟩
theorem wpFn_block {f : FuncId} {id : Nat} {c : Code} {Q : Exit → Act → World → Prop} {a : Act} {w : World} (h : wpFn f F n P c (Exit.inBlock id Q) a w) : wpFn f F n P (Code.block id c) Q a w := by
  intro b k cs hf hro hb hr
  have h0 : (lone (b.atR a (.code (.block id c) :: k)) cs w).fenced P F := fenced_calm hb hr rfl
  obtain ⟨e, a₁, w₁, hq, harr⟩ := h b (.inBlock id :: k) cs hf hro hb hr
  cases e with
  | normal => exact ⟨.normal, a₁, w₁, hq, .head h0 stepR_block (StepsIn.trans harr (.one (fenced_calm hb hr rfl) stepR_inBlock))⟩
  | exit id' =>
    by_cases hid : id' = id
    · simp only [Exit.inBlock, hid, if_true] at hq
      exact ⟨.normal, a₁, w₁, hq, .head h0 stepR_block (harr.1 k (by simp [exitTo, hid]))⟩
    · simp only [Exit.inBlock, hid, if_false] at hq
      have this : (id == id') = false := by simp; exact fun h => hid h.symm
      have hx : exitTo id' (.inBlock id :: k) = exitTo id' k := by simp [exitTo, this]
      exact ⟨.exit id', a₁, w₁, hq, fun k' hk => .head h0 stepR_block (harr.1 k' (by rw [hx]; exact hk)),
        fun hr' hk => let ⟨k₁, h1, h2⟩ := harr.2 hr' (by rw [hx]; exact hk); ⟨k₁, h1, .head h0 stepR_block h2⟩⟩
  | goto l =>
    have hx : gotoIn l (.inBlock id :: k) = gotoIn l k := by simp [gotoIn]
    exact ⟨_, a₁, w₁, hq, fun k' hk => .head h0 stepR_block (harr.1 k' (by rw [hx]; exact hk)),
      fun hr' hk => let ⟨k₁, h1, h2⟩ := harr.2 hr' (by rw [hx]; exact hk); ⟨k₁, h1, .head h0 stepR_block h2⟩⟩
  | ret => exact ⟨_, a₁, w₁, hq, .of_steps (.one h0 stepR_block) harr⟩
  | panic ch => exact ⟨_, a₁, w₁, hq, .of_steps (.one h0 stepR_block) harr⟩
  | outgrown => exact ⟨_, a₁, w₁, hq, .of_steps (.one h0 stepR_block) harr⟩
/-- the statement 'for .. := range g { .. }' in a frame of function fn -/
theorem wpFn_rangeFunc {fn : FuncId} {g : Operand} {ps : Array Tmp} {assign body : Code} {Q : Exit → Act → World → Prop} {a : Act} {w : World}
    (h : ∃ (l : Nat) (mark : List Deferred) (w₁ : World) (d : Deferred) (w₁' : World) (f : FuncId) (args : Array Value) (w₂ : World),
      (Instr.enterLoop fn a.tmps ps assign body F.round).run P w = .ok (l, mark) w₁ ∧
      (resolve a.eval (rangeCall g l) 0).run P w₁ = .ok d w₁' ∧
      (∀ f', Target.leads P w₁' d.target d.args = some f' → F.fn f') ∧
      (invoke d.target d.args).run P w₁' = .ok (.enter f args) w₂ ∧
      (F.depth.isSome = true → 1 ≤ n) ∧
      CallsIn F (n - 1) P f args w₂ (rangePost F n P l Q { a with defers := mark ++ a.defers })) :
    wpFn fn F n P (Code.rangeFunc g ps assign body) Q a w := by
  intro b k cs hfb hro hb hr
  obtain ⟨l, mark, w₁, d, w₁', f, args, w₂, he, hres, hlead, hinv, hn, hF, hcall⟩ := h
  rw [← hro, ← hfb] at he
  have h0 : (lone (b.atR a (.code (.rangeFunc g ps assign body) :: k)) cs w).fenced P F := by
    refine fenced_lone (.inl hb) (fun f' hf' => hlead f' ?_) (Fence.room_le hr (by omega))
    have hev := Frame.eval_atR b a (.code (.rangeFunc g ps assign body) :: k)
    simp only [Frame.atR] at hev
    simp only [Frame.about, Frame.atR, he, hev, hres] at hf'
    exact hf'
  have henter := stepR_rangeFunc (P := P) (b := b) (a := a) (k := k) (cs := cs) (w := w) he hres hinv
  have hroom : F.room ((b.atR { a with defers := mark ++ a.defers } (.inRangeFunc l :: k) :: cs).length + 1 + (n - 1)) := Fence.room_enter hr hn
  obtain ⟨e, w₃, fr, hR, hsteps, hfn, hleave⟩ := hcall (b.atR { a with defers := mark ++ a.defers } (.inRangeFunc l :: k) :: cs) hroom
  cases e with
  | outgrown =>
    obtain ⟨a₀, w₀, hq⟩ := hR
    exact ⟨.outgrown, a₀, w₀, hq, .inr (Outgrown.of_steps (.one henter) hsteps)⟩
  | returned v =>
    have hl : (lone fr (b.atR { a with defers := mark ++ a.defers } (.inRangeFunc l :: k) :: cs) w₃).fenced P F := fenced_leaving (hfn ▸ hF) hroom hleave
    obtain ⟨jump, w₄, hend, hj⟩ := hR
    have sback : StepsIn (Machine.fenced P F) P (lone (b.atR a (.code (.rangeFunc g ps assign body) :: k)) cs w) (lone (b.atR { a with defers := mark ++ a.defers } ((jump.map Item.code).toList ++ k)) cs w₄) := by
      refine .head h0 henter (StepsIn.trans hsteps (.head hl ?_ (.one (fenced_calm (fr := b.atR { a with defers := mark ++ a.defers } (.endRangeFunc l :: k)) hb hr rfl) (stepR_endRangeFunc hend))))
      rw [← finish_atR_inRangeFunc l v]; exact step_leave_returned hleave
    cases jump with
    | none => exact ⟨.normal, _, w₄, hj, sback⟩
    | some c =>
      obtain ⟨e', a'', w₅, hq, harr⟩ := hj b k cs hro hb hr
      exact ⟨e', a'', w₅, hq, .of_steps sback harr⟩
  | panicked chain =>
    have hl : (lone fr (b.atR { a with defers := mark ++ a.defers } (.inRangeFunc l :: k) :: cs) w₃).fenced P F := fenced_leaving (hfn ▸ hF) hroom hleave
    refine ⟨.panic chain, _, w₃, hR, .inRangeFunc l :: k, .head h0 henter (StepsIn.trans hsteps (.one hl ?_))⟩
    rw [← Frame.raise_atR]; exact step_leave_panicked hleave
/-- a function's contract from its body's walk in its own frame -/
theorem callsIn_of_wpFn {f : FuncId} {fn : Func} {c : Code} {args : Array Value} {w : World} {R : Ending → World → Prop}
    (hf : P.funcs[f]? = some fn) (hb : fn.body = some c) (hF : F.fn f)
    (h : wpFn f F n P c (bodyPostM F n P fn R) { tmps := args ++ Array.replicate (fn.ntmps - args.size) undef, defers := [] } w) (hro : F.round = none := by rfl) : CallsIn F n P f args w R := by
  refine ⟨hF, fun cs hr => ?_⟩
  let b : Frame := { (default : Frame) with fn := f, kind := .normal, roundOf := none }
  have henter : Frame.enter P f args .normal =
      b.atR { tmps := args ++ Array.replicate (fn.ntmps - args.size) undef, defers := [] } [.code c] := by
    simp [Frame.enter, Frame.atR, hf, hb, b]
  obtain ⟨e, a', w', hq, harr⟩ := h b [] cs rfl hro.symm hF hr
  rw [← henter] at harr
  cases e with
  | normal =>
    obtain ⟨e', w'', fr', hR, hs, hfn, hl⟩ := leaves_stepsInM a'.defers .returning w' { b.atR a' [] with mode := .returning } cs rfl rfl rfl hf rfl hF hr hq
    exact ⟨e', w'', fr', hR, ComesIn.of_steps (StepsIn.trans harr (.one (fenced_calm (fr := b.atR a' []) hF hr rfl) (stepR_end rfl))) hs, hfn, hl⟩
  | ret =>
    obtain ⟨todo, hs₀⟩ := harr.1 rfl
    obtain ⟨e', w'', fr', hR, hs, hfn, hl⟩ := leaves_stepsInM a'.defers .returning w' { b.atR a' todo with mode := .returning } cs rfl rfl rfl hf rfl hF hr hq
    exact ⟨e', w'', fr', hR, ComesIn.of_steps hs₀ hs, hfn, hl⟩
  | panic chain =>
    obtain ⟨todo, hs₀⟩ := harr
    obtain ⟨e', w'', fr', hR, hs, hfn, hl⟩ := leaves_stepsInM a'.defers (.panicking chain) w' { b.atR a' todo with mode := .panicking chain } cs rfl rfl rfl hf rfl hF hr hq
    exact ⟨e', w'', fr', hR, ComesIn.of_steps hs₀ hs, hfn, hl⟩
  | exit id => exact hq.elim
  | goto l => exact hq.elim
  | outgrown => exact ⟨.outgrown, w', b, hq, harr.resolve_left (by simp [b]), rfl, trivial⟩

/- Walks of layer 33: the iterator over the lines of a text. -/
open Go.RowKit Go.Shelf
set_option linter.unusedVariables false

def lineOf (l : Bs) : Bs := l.takeWhile fun c => c != 10
theorem lineOf_cases : ∀ l : Bs, (10 ∉ l ∧ Lib.index l [10] = -1 ∧ lineOf l = l) ∨ (∃ r, l = lineOf l ++ 10 :: r ∧ Lib.index l [10] = ((lineOf l).length : Int) ∧ 10 ∉ lineOf l)
  | [] => Or.inl ⟨by simp, rfl, rfl⟩
  | x :: r => by
    have hp : [10].isPrefixOf (x :: r) = ((10 : UInt8) == x) := by simp [List.isPrefixOf]
    by_cases h : x = 10
    · subst h
      exact Or.inr ⟨r, by simp [lineOf], by unfold Lib.index; rw [hp]; simp [lineOf], by simp [lineOf]⟩
    · have hb : ((10 : UInt8) == x) = false := beq_eq_false_iff_ne.2 (fun e => h e.symm)
      have hx : (x != 10) = true := by simpa using h
      have el : lineOf (x :: r) = x :: lineOf r := by unfold lineOf; rw [List.takeWhile_cons, if_pos hx]
      rcases lineOf_cases r with ⟨h1, h2, h3⟩ | ⟨t, h1, h2, h3⟩
      · refine Or.inl ⟨by simp [h1, Ne.symm h], ?_, by rw [el, h3]⟩
        unfold Lib.index; rw [hp, hb, h2]; rfl
      · refine Or.inr ⟨t, by rw [el, List.cons_append, ← h1], ?_, by rw [el]; simp [h3, Ne.symm h]⟩
        have hn : (((lineOf r).length : Int) == -1) = false := beq_eq_false_iff_ne.2 (by omega)
        unfold Lib.index
        rw [hp, hb, h2, hn, el]; simp
theorem cut_lineOf (l : Bs) : (Lib.cut l [10]).1 = lineOf l := by
  unfold Lib.cut
  rcases lineOf_cases l with ⟨h1, h2, h3⟩ | ⟨t, h1, h2, h3⟩
  · rw [h2, h3]; rfl
  · rw [h2, if_pos (by omega)]
    generalize lineOf l = ln at *
    subst h1
    simp
theorem lineOf_len (l : Bs) : (lineOf l).length ≤ l.length := by
  rcases lineOf_cases l with ⟨h1, h2, h3⟩ | ⟨t, h1, h2, h3⟩
  · rw [h3]; exact Nat.le_refl _
  · have := congrArg List.length h1; simp at this; omega
theorem linesGo_step (p : Nat) (l : Bs) : linesGo p [] l = emit p (lineOf l) (linesGo (p + (lineOf l).length + 1) [] (l.drop ((lineOf l).length + 1))) := by
  rcases lineOf_cases l with ⟨h1, h2, h3⟩ | ⟨t, h1, h2, h3⟩
  · rw [linesGo_end l [] p h1, List.nil_append, h3, List.drop_eq_nil_of_le (by omega)]
    have : linesGo (p + l.length + 1) [] [] = [] := by unfold linesGo emit; rw [if_pos (Or.inl rfl)]
    rw [this]
  · have e := linesGo_line (lineOf l) t [] p h3
    rw [List.nil_append, ← h1] at e
    have hd : l.drop ((lineOf l).length + 1) = t := by
      generalize lineOf l = ln at *
      subst h1
      have : ln.length + 1 = (ln ++ [10]).length := by simp
      rw [this, show ln ++ 10 :: t = (ln ++ [10]) ++ t by simp, List.drop_left]
    rw [e, hd]
theorem linesGo_nil (p : Nat) : linesGo p [] [] = [] := by unfold linesGo emit; rw [if_pos (Or.inl rfl)]
/-- what the body of a range over the lines of a text does: it goes on, or it panics -/
def IterPost (s : Bs) (J : List (Nat × Bs) → World → Prop) (Jp : List (Nat × Bs) → Nat → Bs → List PanicEntry → World → Prop) (e : Ending) (W : World) : Prop :=
  (e = .returned (.tuple #[]) ∧ J (linesL s) W) ∨ (∃ pre p line post ch, linesL s = pre ++ (p, line) :: post ∧ e = .panicked ch ∧ Jp pre p line ch W)
attribute [local go_sem] Oper.semAt_some
set_option maxRecDepth 100000 in
set_option maxHeartbeats 2000000 in
theorem linesIter_any (l Bt : Nat) (s : ByteArray) (hs : s.size ≤ 1000000) (J : List (Nat × Bs) → World → Prop) (Jp : List (Nat × Bs) → Nat → Bs → List PanicEntry → World → Prop)
    (hJ : ∀ pre W, J pre W → W.cell? ⟨Bt, 0, none⟩ = some (.string s) ∧ ∃ m, W.cell? ⟨3, 0, none⟩ = some (.int .i64 m))
    (hJd : ∀ pre W k, J pre W → J pre (W.drewN k))
    (hY : ∀ (pre : List (Nat × Bs)) (p : Nat) (line : Bs) (post : List (Nat × Bs)) (W : World), linesL s.data.toList = pre ++ (p, line) :: post → J pre W → YieldAt Fence.wide 4 Tryz.prog l #[.int .i64 (p : Int), .string ⟨line.toArray⟩] W fun e W' =>
      (e = .returned (.bool true) ∧ J (pre ++ [(p, line)]) W') ∨ (∃ ch, e = .panicked ch ∧ Jp pre p line ch W'))
    (W : World) (h0 : J [] W) :
    CallsIn Fence.wide 5 Tryz.prog 101 #[.func (.yield l) #[] #[], .pointer (some ⟨Bt, 0, none⟩)] W (IterPost s.data.toList J Jp) := by
  refine callsIn_of_wp Tryz.func101 rfl trivial ?_ rfl
  simp only [Tryz.ntmps101, List.size_toArray, List.length_cons, List.length_nil, Nat.reduceAdd, Nat.reduceSub, Array.replicate_succ, Array.replicate_zero, List.push_toArray, List.append_toArray, List.nil_append, List.cons_append]
  gi_wp2
  gi_loopw [3, 4, 5, 6] (fun v _ _ _ wr => ∃ (p : Nat) (pre : List (Nat × Bs)), v = .int .i64 p ∧ p ≤ s.size + 1 ∧ Hid (linesL s.data.toList = pre ++ linesGo p [] (s.data.toList.drop p)) ∧ J pre wr)
    (fun v _ _ _ _ => s.size + 1 - (intOf v).toNat)
  case atStart => exact ⟨0, [], rfl, by omega, rfl, h0⟩
  case round =>
    obtain ⟨p, pre, rfl, hp, H, hj⟩ := hrel
    obtain ⟨hcell, m, hm⟩ := hJ pre wr hj
    by_cases hlt : p < s.size
    · have hst := linesGo_step p (s.data.toList.drop p)
      have hll := lineOf_len (s.data.toList.drop p)
      rw [List.length_drop, ← Lib.size_eq] at hll
      rw [List.drop_drop, ← Nat.add_assoc] at hst
      have hcut := Tryz.strings_Cut (s.extract p s.size) ⟨#[10]⟩ m wr (by rw [Lib.size_eq, ext_data, List.length_take, List.length_drop, ← Lib.size_eq]; omega) hm
      rw [show (s.extract p s.size).data.toList = s.data.toList.drop p from by rw [ext_data, List.take_of_length_le (by rw [List.length_drop, ← Lib.size_eq]; omega)], show (⟨#[10]⟩ : ByteArray).data.toList = [10] from rfl, cut_lineOf] at hcut
      have p0 : (0 : Int) ≤ (p : Int) := by omega
      have p1 : (p : Int) < (s.size : Int) := by omega
      have H2 : Hid (linesL s.data.toList = pre ++ emit p (lineOf (s.data.toList.drop p)) (linesGo (p + (lineOf (s.data.toList.drop p)).length + 1) [] (s.data.toList.drop (p + (lineOf (s.data.toList.drop p)).length + 1)))) := by rw [Hid, H.out, hst]
      clear hst
      obtain ⟨L, hL⟩ : ∃ L : ByteArray, (⟨(lineOf (s.data.toList.drop p)).toArray⟩ : ByteArray) = L := ⟨_, rfl⟩
      have hLd : lineOf (s.data.toList.drop p) = L.data.toList := by rw [← hL]
      rw [hL] at hcut
      rw [hLd] at hll H2
      rw [← Lib.size_eq] at hll H2
      clear hL hLd
      generalize (Lib.cut (s.data.toList.drop p) [10]).2.1 = x2 at hcut
      generalize (Lib.cut (s.data.toList.drop p) [10]).2.2 = x3 at hcut
      by_cases hne : L.size = 0
      · have hemp := isEmpty_of hne
        have H3 : Hid (linesL s.data.toList = pre ++ linesGo (p + L.size + 1) [] (s.data.toList.drop (p + L.size + 1))) := by
          have h := H2.out
          unfold emit at h
          rwa [if_pos (Or.inl (data_nil hne))] at h
        clear hne H2
        gi_wp2_with (refine ⟨trivial, ?_⟩; gi_at_call 102; refine (callsIn_wide.2 hcut).mono ?_; rintro e w1 ⟨rfl, k, rfl⟩)
        refine ⟨fun _ h => (by cases h), ?_⟩
        gi_wp2
        go_roundw
        case rel => exact ⟨p + L.size + 1, pre, by go_num, by omega, H3, hJd _ _ _ hj⟩
        case measure => simp [intOf]; omega
      · have hemp := not_isEmpty_of hne
        have hb0 := byte0 L (by omega)
        have b35 := u8_beq (c := L[0]) (d := 35)
        rw [show (((35 : UInt8).toNat : Nat) : Int) = 35 from rfl] at b35
        by_cases h35 : L[0] = 35
        · have H3 : Hid (linesL s.data.toList = pre ++ linesGo (p + L.size + 1) [] (s.data.toList.drop (p + L.size + 1))) := by
            have h := H2.out
            unfold emit at h
            rwa [if_pos (Or.inr (by rw [← hb0]; exact h35))] at h
          have n35 : (((L[0].toNat : Nat) : Int) != 35) = false := by rw [bne, b35, decide_eq_true h35]; rfl
          rw [decide_eq_true h35] at b35
          clear h35 H2 hb0
          gi_wp2_with (refine ⟨trivial, ?_⟩; gi_at_call 102; refine (callsIn_wide.2 hcut).mono ?_; rintro e w1 ⟨rfl, k, rfl⟩)
          refine ⟨fun _ h => (by cases h), ?_⟩
          gi_wp2
          go_roundw
          case rel => exact ⟨p + L.size + 1, pre, by go_num, by omega, H3, hJd _ _ _ hj⟩
          case measure => simp [intOf]; omega
        · have H3 : Hid (linesL s.data.toList = pre ++ (p, L.data.toList) :: linesGo (p + L.size + 1) [] (s.data.toList.drop (p + L.size + 1))) := by
            have h := H2.out
            unfold emit at h
            rwa [if_neg (by rintro (e | e); exact data_ne hne e; exact h35 (by rw [hb0]; exact e))] at h
          have H4 : Hid (linesL s.data.toList = (pre ++ [(p, L.data.toList)]) ++ linesGo (p + L.size + 1) [] (s.data.toList.drop (p + L.size + 1))) := by rw [Hid, H3.out]; simp
          have n35 : (((L[0].toNat : Nat) : Int) != 35) = true := by rw [bne, b35, decide_eq_false h35]; rfl
          rw [decide_eq_false h35] at b35
          clear h35 H2 hb0
          gi_wp2_with (refine ⟨trivial, ?_⟩; gi_at_call 102; refine (callsIn_wide.2 hcut).mono ?_; rintro e w1 ⟨rfl, k, rfl⟩; obtain ⟨fn, tmps, assign, body, hy, hR⟩ := hY pre p L.data.toList _ _ H3.out (hJd _ _ k hj); rw [show (⟨(L.data.toList).toArray⟩ : ByteArray) = L from rfl] at hy)
          refine hR.mono ?_
          rintro e W3 (⟨rfl, hJ3⟩ | ⟨ch, rfl, hp3⟩)
          · gi_wp2
            go_roundw
            case rel => exact ⟨p + L.size + 1, _, by go_num, by omega, H4, hJ3⟩
            case measure => simp [intOf]; omega
          · exact ⟨rfl, Or.inr ⟨pre, p, L.data.toList, _, ch, H3.out, rfl, hp3⟩⟩
    · have HX : Hid (linesL s.data.toList = pre) := by
        have := H.out
        rw [List.drop_eq_nil_of_le (by rw [← Lib.size_eq]; omega), linesGo_nil, List.append_nil] at this
        exact this
      gi_wp2
      refine bodyPost_ret (results_none rfl _ _ _) rfl ?_
      exact Or.inl ⟨rfl, by rw [HX.out]; exact hj⟩

/- Walks of layer 33: the deferred closure of read. -/
open Go.RowKit
set_option linter.unusedVariables false

theorem wr1 (w : World) : (Instr.typeAssert (.iface 97 (.agg #[])) 20 97 true).run Tryz.prog w = .ok (.tuple #[.agg #[], .bool true]) w := by
  simp [Instr.typeAssert, run_underlying Tryz.underlying97, go_sem, Result.andThen]
set_option maxHeartbeats 1000000 in
set_option maxRecDepth 100000 in
theorem catchH (n b : Nat) (x : Value) (w : World) (hp : w.heap[b]? = some (.cells #[x] 23 (0, 0))) :
    CallsDIn Fence.wide n Tryz.prog 71 #[.pointer (some ⟨b, 0, none⟩)] (.panicking [{ v := .iface 97 (.agg #[]), recovered := false }]) w fun e u' w' =>
      e = .returned (.tuple #[]) ∧ u' = .panicking [{ v := .iface 97 (.agg #[]), recovered := true }] ∧ w' = (w.alloc (.cells #[] 97)).setCell ⟨b, 0, none⟩ (.int .i64 3) := by
  refine callsDIn_of_wpSIn Tryz.func71 rfl trivial fun c₀ cs hu => ?_
  have hb0 : Below w.heap.size w (w.alloc (.cells #[] 97)) := (Below.refl _ w).alloc (Nat.le_refl _) _
  have hp2 := (hb0.block b (lt_of_block hp)).trans hp
  have k2 := cell_of_one hp2
  have f2 := free_of_one hp2
  apply wpSIn_seq
  apply wpSIn_region
  simp [wpOpsSIn, go_sem, recoverD, hu, Tryz.ntmps71, Exit.thenS]
  refine wpSIn_of_wpIn rfl (wpIn_wide.2 ?_)
  have ht := wr1
  simp only [Array.replicate_succ, Array.replicate_zero, List.push_toArray, List.append_toArray, List.nil_append, List.cons_append, List.setIfInBounds_toArray, List.set_cons_succ, List.set_cons_zero]
  go_wp2
  refine ⟨rfl, .panicking [{ v := .iface 97 (.agg #[]), recovered := true }], rfl, .tuple #[], by simp [results, Tryz.results71], rfl, rfl, rfl⟩
set_option maxHeartbeats 1000000 in
set_option maxRecDepth 100000 in
theorem idleH (n b : Nat) (w : World) :
    CallsDIn Fence.wide n Tryz.prog 71 #[.pointer (some ⟨b, 0, none⟩)] .returning w fun e u' w' => e = .returned (.tuple #[]) ∧ u' = .returning ∧ w' = w := by
  refine callsDIn_of_wpSIn Tryz.func71 rfl trivial fun c₀ cs hu => ?_
  apply wpSIn_seq
  apply wpSIn_region
  simp [wpOpsSIn, go_sem, recoverD, hu, Tryz.ntmps71, Exit.thenS]
  refine wpSIn_of_wpIn rfl (wpIn_wide.2 ?_)
  simp only [Array.replicate_succ, Array.replicate_zero, List.push_toArray, List.append_toArray, List.nil_append, List.cons_append, List.setIfInBounds_toArray, List.set_cons_succ, List.set_cons_zero]
  go_wp2
  refine ⟨rfl, .returning, by cases c₀; simp_all, .tuple #[], by simp [results, Tryz.results71], rfl, rfl, rfl⟩
set_option maxHeartbeats 1000000 in
theorem lines_any (s : ByteArray) (w : World) : Calls Tryz.prog 72 #[.string s] w fun e w' => e = .returned (.func (.func 101) #[] #[.pointer (some ⟨w.heap.size, 0, none⟩)]) ∧ w' = w.alloc (.cells #[.string s] 9) := by
  have hmf : ∀ (fn : Fn) (first cap : Array Value) (w : World), (Instr.makeFunc fn first cap).run Tryz.prog w = .ok (.func fn first cap) w := fun _ _ _ _ => rfl
  go_enter Tryz.func72, Tryz.ntmps72
  go_wp2_with fail
  go_returns
  exact ⟨rfl, rfl⟩
#print Tryz.f31

/- A range over a function whose body may panic: the law for a caller, over an iterator that hands the values of a list one by one. -/
open Go Go.RowKit
set_option linter.unusedVariables false
variable {P : Program}

/-- an iterator that hands over the values xs; Hc: what it wants of the memory between two rounds -/
def HandsOver {α : Type} (P : Program) (gf : Nat) (lb : Array Value) (encs : α → Array Value) (xs : List α) (Hc : World → Prop) : Prop :=
  ∀ (l : Nat) (J : List α → World → Prop) (Jp : List α → α → List PanicEntry → World → Prop), (∀ pre W, J pre W → Hc W) → (∀ pre W k, J pre W → J pre (W.drewN k)) →
    (∀ pre x post W, xs = pre ++ x :: post → J pre W → YieldAt Fence.wide 4 P l (encs x) W fun e W' => (e = .returned (.bool true) ∧ J (pre ++ [x]) W') ∨ (∃ ch, e = .panicked ch ∧ Jp pre x ch W')) →
    ∀ W, J [] W → CallsIn Fence.wide 5 P gf (#[.func (.yield l) #[] #[]] ++ lb) W fun e W' =>
      (e = .returned (.tuple #[]) ∧ J xs W') ∨ (∃ pre x post ch, xs = pre ++ x :: post ∧ e = .panicked ch ∧ Jp pre x ch W')
/-- how the body of a round may be left: it goes on, or it panics; the two blocks of book-keeping lie as they lay -/
def bodyP {α : Type} (l D : Nat) (I : List α → World → Prop) (Ip : List α → α → List PanicEntry → World → Prop) (pre : List α) (x : α) (W : World) : Exit → Act → World → Prop
  | .normal, _, W' => W'.heap[l]? = W.heap[l]? ∧ W'.heap[D]? = W.heap[D]? ∧ I (pre ++ [x]) W'
  | .panic ch, a, W' => a.defers = [] ∧ W'.heap[D]? = W.heap[D]? ∧ Ip pre x ch W'
  | _, _, _ => False
theorem wpFn_range {α : Type} {fn : FuncId} {fd : Func} {g : Operand} {ps : Array Tmp} {assign body : Code} {Q : Exit → Act → World → Prop} {a : Act} {w : World}
    (hfd : P.funcs[fn]? = some fd) {gf : Nat} {lb : Array Value} (hg : a.eval g = .func (.func gf) #[] lb) (eg : ∀ args w, (callFunc gf args).run P w = .ok (.enter gf args) w)
    {encs : α → Array Value} {xs : List α} {Hc : World → Prop} (hseq : HandsOver P gf lb encs xs Hc) (hps : ∀ x, (encs x).size = ps.size)
    (I : List α → World → Prop) (Ip : List α → α → List PanicEntry → World → Prop) (h0 : ∀ o1 o2, I [] ((w.alloc o1).alloc o2))
    (hIl : ∀ pre W o, I pre W → I pre (W.putObj (w.heap.size + 1) o)) (hId : ∀ pre W k, I pre W → I pre (W.drewN k)) (hIc : ∀ pre W, I pre W → Hc W) (a₁ : α → Act)
    (hassign : ∀ (x : α) (W : World) (K : Act → World → Prop), K (a₁ x) W →
      assign.wpIn (Fence.wide.inRound (w.heap.size + 1)) 4 P (Exit.then K (fun _ _ _ => False)) { tmps := (ps.zip (encs x)).foldl (fun t (p, v) => t.setIfInBounds p v) a.tmps, defers := [] } W)
    (hbody : ∀ (pre : List α) (x : α) (post : List α) (W : World), xs = pre ++ x :: post → I pre W → body.wpIn (Fence.wide.inRound (w.heap.size + 1)) 4 P (bodyP (w.heap.size + 1) w.heap.size I Ip pre x W) (a₁ x) W)
    (hdone : ∀ W, I xs W → W.heap[w.heap.size]? = some (.deferred (some [])) → Q .normal { a with defers := { target := .collected w.heap.size, args := #[] } :: a.defers } W)
    (hpanic : ∀ pre x post ch W, xs = pre ++ x :: post → Ip pre x ch W → W.heap[w.heap.size]? = some (.deferred (some [])) → Q (.panic ch) { a with defers := { target := .collected w.heap.size, args := #[] } :: a.defers } W) :
    wpFn fn Fence.wide 6 P (Code.rangeFunc g ps assign body) Q a w := by
  refine wpFn_rangeFunc ?_
  obtain ⟨rec, hrec⟩ : ∃ rec : LoopState → Option Code → Loop, rec = fun st pe => { state := st, pending := pe, fn := fn, tmps := a.tmps, params := ps, assign, body, defers := w.heap.size } := ⟨_, rfl⟩
  obtain ⟨W1, hW1⟩ : ∃ W1, (w.alloc (.deferred (some []))).alloc (.loop (rec .ready none)) = W1 := ⟨_, rfl⟩
  have hL1 : W1.heap[w.heap.size + 1]? = some (.loop (rec .ready none)) := by
    rw [← hW1]; have := World.alloc_heap_new (w.alloc (.deferred (some []))) (.loop (rec .ready none)); rwa [World.size_alloc] at this
  have hK1 : W1.heap[w.heap.size]? = some (.deferred (some [])) := by
    rw [← hW1]; exact (Below.heap_alloc _ _ _ (by simp)).trans (World.alloc_heap_new w _)
  refine ⟨w.heap.size + 1, [{ target := .collected w.heap.size, args := #[] }], W1, { target := .fn (.func gf) lb, args := #[.func (.yield (w.heap.size + 1)) #[] #[]] }, W1, gf,
    #[.func (.yield (w.heap.size + 1)) #[] #[]] ++ lb, W1, ?_, ?_, ?_, ?_, fun _ => by omega, ?_⟩
  · rw [← hW1, hrec]; exact run_enterLoop_outer _ _ _ _ _
  · simp only [resolve, hg]
    simp [go_sem]
  · intro f' hf'; trivial
  · simp [invoke, go_sem, eg]
  · refine (hseq (w.heap.size + 1)
      (fun pre W => I pre W ∧ W.heap[w.heap.size + 1]? = some (.loop (rec .ready none)) ∧ W.heap[w.heap.size]? = some (.deferred (some [])))
      (fun pre x ch W => Ip pre x ch W ∧ W.heap[w.heap.size]? = some (.deferred (some [])))
      (fun pre W h => hIc pre W h.1) (fun pre W k h => ⟨hId pre W k h.1, h.2.1, h.2.2⟩) ?_ W1 ⟨by rw [← hW1]; exact h0 _ _, hL1, hK1⟩).mono ?_
    · rintro pre x post W hx ⟨hi, hl, hk⟩
      have hlt : w.heap.size + 1 < W.heap.size := (Array.getElem?_eq_some_iff.1 hl).1
      have hy := run_yield (P := P) (args := encs x) hl (by rw [hrec]; exact hps x)
      rw [hrec] at hy
      refine ⟨fn, _, assign, body, hy, roundIn_of_wpInP trivial hfd (hassign x W _ ?_)⟩
      clear hy
      refine ⟨_, run_beginRound hl (by rw [hrec]), ?_⟩
      have hl2 : (W.putObj (w.heap.size + 1) (.loop { rec .ready none with state := .busy })).heap[w.heap.size + 1]? = some (.loop { rec .ready none with state := .busy }) := World.putObj_heap_same hlt
      have hk2 : (W.putObj (w.heap.size + 1) (.loop { rec .ready none with state := .busy })).heap[w.heap.size]? = some (.deferred (some [])) := (World.putObj_heap_other (by omega)).trans hk
      refine wpIn_mono (hbody pre x post _ hx (hIl _ _ _ hi)) ?_
      rintro e a3 W3 hp
      cases e with
      | normal =>
        obtain ⟨h1, h2, h3⟩ := hp
        have hl3 := h1.trans hl2
        have hr := run_endRound (P := P) none hl3
        refine ⟨_, _, hr, Or.inl ⟨rfl, hIl _ _ _ h3, ?_, ?_⟩⟩
        · have := World.putObj_heap_same (w := W3) (o := .loop { { rec .ready none with state := .busy } with state := if (none : Option Code).isNone then .ready else .done, pending := none }) (Array.getElem?_eq_some_iff.1 hl3).1
          rw [hrec] at this ⊢
          exact this
        · exact (World.putObj_heap_other (by omega)).trans (h2.trans hk2)
      | panic ch =>
        obtain ⟨h1, h2, h3⟩ := hp
        exact ⟨h1, Or.inr ⟨ch, rfl, h3, h2.trans hk2⟩⟩
      | ret => exact hp.elim
      | exit id => exact hp.elim
      | goto t => exact hp.elim
      | outgrown => exact hp.elim
    · rintro e W2 (⟨rfl, hi, hl, hk⟩ | ⟨pre, x, post, ch, hx, rfl, hi, hk⟩)
      · exact ⟨none, _, by have := run_endLoop (P := P) hl (by rw [hrec]; simp); rw [hrec] at this; exact this, hdone _ (hIl _ _ _ hi) ((World.putObj_heap_other (by omega)).trans hk)⟩
      · exact hpanic pre x post ch W2 hx hi hk

/- Walks of layer 33: read: a function is called for each line of a text. -/
open Go.RowKit Go.Shelf
set_option linter.unusedVariables false

section plain
variable {α : Type} (step : List α → Bs → Option (List α))
theorem fold_snoc : ∀ (a : List Bs) (st st' : List α) (l : Bs), foldSteps step st a = some st' → foldSteps step st (a ++ [l]) = step st' l
  | [], st, st', l, h => by
    cases h
    show (match step st l with | some x => some x | none => none) = _
    cases step st l <;> rfl
  | x :: a, st, st', l, h => by
    show (match step st x with | some y => foldSteps step y (a ++ [l]) | none => none) = _
    have h' : (match step st x with | some y => foldSteps step y a | none => none) = some st' := h
    cases hx : step st x with
    | none => rw [hx] at h'; cases h'
    | some y => rw [hx] at h'; exact fold_snoc a y st' l h'
theorem readAll_done : ∀ (ls : List (Nat × Bs)) (st st' : List α), foldSteps step st (ls.map (·.2)) = some st' → readAll step st ls = (st', 0, 0)
  | [], st, st', h => by cases h; rfl
  | (p, l) :: r, st, st', h => by
    have h' : (match step st l with | some y => foldSteps step y (r.map (·.2)) | none => none) = some st' := h
    unfold readAll
    cases hx : step st l with
    | none => rw [hx] at h'; cases h'
    | some y => rw [hx] at h'; exact readAll_done r y st' h'
theorem readAll_stop : ∀ (pre : List (Nat × Bs)) (p : Nat) (l : Bs) (post : List (Nat × Bs)) (st st' : List α), foldSteps step st (pre.map (·.2)) = some st' → step st' l = none → readAll step st (pre ++ (p, l) :: post) = ([], p, 3)
  | [], p, l, post, st, st', h, hn => by
    cases h
    show (match step st l with | some y => readAll step y post | none => ([], p, 3)) = _
    rw [hn]
  | (q, x) :: r, p, l, post, st, st', h, hn => by
    have h' : (match step st x with | some y => foldSteps step y (r.map (·.2)) | none => none) = some st' := h
    rw [List.cons_append]
    unfold readAll
    cases hx : step st x with
    | none => rw [hx] at h'; cases h'
    | some y => rw [hx] at h'; exact readAll_stop r p l post y st' h' hn
end plain
theorem linesGo_mem : ∀ (s cur : Bs) (p : Nat) (x : Nat × Bs), x ∈ linesGo p cur s → x.2 ≠ [] ∧ x.2.length ≤ cur.length + s.length ∧ x.1 ≤ p + cur.length + s.length
  | [], cur, p, x, h => by
    unfold linesGo emit at h
    split at h
    · cases h
    · rename_i hn
      simp only [List.mem_singleton] at h
      subst h
      exact ⟨fun e => hn (Or.inl e), by simp, by simp⟩
  | c :: r, cur, p, x, h => by
    unfold linesGo at h
    split at h
    · unfold emit at h
      split at h
      · have := linesGo_mem r [] _ x h
        simp only [List.length_nil, List.length_cons] at this ⊢
        exact ⟨this.1, by omega, by omega⟩
      · rename_i hn
        rcases List.mem_cons.1 h with rfl | h
        · exact ⟨fun e => hn (Or.inl e), by simp, by simp; omega⟩
        · have := linesGo_mem r [] _ x h
          simp only [List.length_nil, List.length_cons] at this ⊢
          exact ⟨this.1, by omega, by omega⟩
    · have := linesGo_mem r _ _ x h
      simp only [List.length_append, List.length_nil, List.length_cons] at this ⊢
      exact ⟨this.1, by omega, by omega⟩
theorem lines_mem {s : Bs} {x : Nat × Bs} (h : x ∈ linesL s) : x.2 ≠ [] ∧ x.2.length ≤ s.length ∧ x.1 ≤ s.length := by
  have := linesGo_mem s [] 0 x h
  simpa using this
/-- between two rounds -/
structure RJ {α : Type} (step : List α → Bs → Option (List α)) (st0 : List α) (St : List α → World → Prop) (base n0 : Nat) (w : World) (fv : Value) (s : ByteArray) (pre : List (Nat × Bs)) (W : World) : Prop where
  st : ∃ st, foldSteps step st0 (pre.map (·.2)) = some st ∧ St st W
  f : W.heap[n0]? = some (.cells #[fv] 60 (0, 0))
  a : ∃ x, W.heap[n0 + 1]? = some (.cells #[.int .i64 x] 3 (0, 0))
  e : W.heap[n0 + 2]? = some (.cells #[.int .i64 0] 23 (0, 0))
  tx : W.heap[n0 + 3]? = some (.cells #[.string s] 9 (0, 0))
  sz : n0 + 6 ≤ W.heap.size
  chg : Chg (fun b => base ≤ b) w W
/-- where a round has panicked -/
structure RP {α : Type} (step : List α → Bs → Option (List α)) (st0 : List α) (St : List α → World → Prop) (base n0 : Nat) (w : World) (pre : List (Nat × Bs)) (x : Nat × Bs) (ch : List PanicEntry) (W : World) : Prop where
  st : ∃ st, foldSteps step st0 (pre.map (·.2)) = some st ∧ step st x.2 = none ∧ St st W
  a : W.heap[n0 + 1]? = some (.cells #[.int .i64 (x.1 : Int)] 3 (0, 0))
  e : W.heap[n0 + 2]? = some (.cells #[.int .i64 0] 23 (0, 0))
  ch : ch = [{ v := .iface 97 (.agg #[]), recovered := false }]
  chg : Chg (fun b => base ≤ b) w W
theorem chg_putObj (w : World) (b : Nat) (o : Obj) : Chg (fun c => c = b) w (w.putObj b o) := ⟨rfl, rfl, rfl, by simp, fun c _ hx => World.putObj_heap_other hx⟩
theorem chg_setCell (w : World) (b k : Nat) (u : Value) : Chg (fun c => c = b) w (w.setCell ⟨b, k, none⟩ u) := ⟨rfl, rfl, rfl, by simp, fun c _ hx => Below.heap_setCell _ _ _ _ hx⟩
theorem chg_drewN (X : Nat → Prop) (w : World) (k : Nat) : Chg X w (w.drewN k) := ⟨rfl, rfl, rfl, Nat.le_refl _, fun _ _ _ => rfl⟩
theorem chg_alloc (X : Nat → Prop) (w : World) (o : Obj) : Chg X w (w.alloc o) := Chg.of_new ((Below.refl _ _).alloc (Nat.le_refl _) _)
theorem RJ.step {α : Type} {step : List α → Bs → Option (List α)} {st0 : List α} {St : List α → World → Prop} {base n0 : Nat} {w : World} {fv : Value} {s : ByteArray} {pre : List (Nat × Bs)} {W W' : World} (h : RJ step st0 St base n0 w fv s pre W)
    (hSt : ∀ st W W', St st W → Chg (fun b => n0 ≤ b ∧ b < n0 + 6) W W' → St st W') (hb : base ≤ n0) (hc : Chg (fun b => b = n0 + 4 ∨ b = n0 + 5) W W') : RJ step st0 St base n0 w fv s pre W' := by
  obtain ⟨⟨st, h1, h2⟩, h3, ⟨x, h4⟩, h5, h6, h7, h8⟩ := h
  have key : ∀ b o, b < n0 + 4 → W.heap[b]? = some o → W'.heap[b]? = some o := fun b o hb ho => (hc.block b (by omega) (by omega)).trans ho
  exact ⟨⟨st, h1, hSt st W W' h2 (hc.mono fun b _ hx => by omega)⟩, key _ _ (by omega) h3, ⟨x, key _ _ (by omega) h4⟩, key _ _ (by omega) h5, key _ _ (by omega) h6, Nat.le_trans h7 hc.size, h8.trans hc fun b _ hx => by omega⟩
theorem lines_hands (Bt : Nat) (s : ByteArray) (hs : s.size ≤ 1000000) : HandsOver Tryz.prog 101 #[.pointer (some ⟨Bt, 0, none⟩)] (fun x : Nat × Bs => #[.int .i64 (x.1 : Int), .string ⟨x.2.toArray⟩]) (linesL s.data.toList)
    (fun W => W.cell? ⟨Bt, 0, none⟩ = some (.string s) ∧ ∃ m, W.cell? ⟨3, 0, none⟩ = some (.int .i64 m)) := by
  intro l J Jp hJ hJd hY W h0
  refine (linesIter_any l Bt s hs J (fun pre p line ch W => Jp pre (p, line) ch W) hJ hJd (fun pre p line post W hx hj => hY pre (p, line) post W hx hj) W h0).mono ?_
  intro e W' h
  rcases h with h | ⟨pre, p, line, post, ch, h1, h2, h3⟩
  · exact Or.inl h
  · exact Or.inr ⟨pre, (p, line), post, ch, h1, h2, h3⟩
/-- what read returns -/
def ReadPost {α : Type} (step : List α → Bs → Option (List α)) (st0 : List α) (St : List α → World → Prop) (base : Nat) (w : World) (s : Bs) (e : Ending) (W : World) : Prop :=
  ∃ l p c, readAll step st0 (linesL s) = (l, p, c) ∧ e = .returned (.tuple #[.int .i64 (p : Int), .int .i64 (c : Int)]) ∧ (c = 0 → St l W) ∧ (∃ l', St l' W) ∧ Below base w W
attribute [local go_sem] Oper.semAt_some
set_option maxRecDepth 100000 in
set_option maxHeartbeats 4000000 in
theorem read_any {α : Type} (step : List α → Bs → Option (List α)) (st0 : List α) (St : List α → World → Prop) (base n0 k : Nat) (lb : Array Value) (w : World) (s : ByteArray) (hs : s.size ≤ 16384) (hbase : base ≤ n0) (hNG : 9 ≤ base) (hw : w.heap.size = n0) (hT : TabH w)
    (hSt0 : St st0 w) (hSt : ∀ st W W', St st W → Chg (fun b => n0 ≤ b ∧ b < n0 + 6) W W' → St st W')
    (hf : ∀ st W (L : ByteArray), St st W → TabH W → n0 + 6 ≤ W.heap.size → L.size ≠ 0 → L.size ≤ 16384 → Calls Tryz.prog k (#[.string L] ++ lb) W fun e W' =>
      Chg (fun b => (base ≤ b ∧ b < n0) ∨ n0 + 6 ≤ b) W W' ∧ ((∃ st', step st L.data.toList = some st' ∧ e = .returned (.tuple #[]) ∧ St st' W') ∨ (step st L.data.toList = none ∧ e = wrongP ∧ St st W')))
    (hk : ∀ args w, (callFunc k args).run Tryz.prog w = .ok (.enter k args) w) :
    Calls Tryz.prog 31 #[.string s, .func (.func k) #[] lb] w (ReadPost step st0 St base w s.data.toList) := by
  have hmf : ∀ (fn : Fn) (first cap : Array Value) (w : World), (Instr.makeFunc fn first cap).run Tryz.prog w = .ok (.func fn first cap) w := fun _ _ _ _ => rfl
  refine callsIn_wide.1 (callsIn_of_wpFn (n := 6) Tryz.func31 rfl trivial ?_ rfl)
  simp only [Tryz.ntmps31, List.size_toArray, List.length_cons, List.length_nil, Nat.reduceAdd, Nat.reduceSub, Array.replicate_succ, Array.replicate_zero, List.push_toArray, List.append_toArray, List.nil_append, List.cons_append]
  have hs2 : (s.size : Int) ≤ 16384 := by omega
  have hln := lines_any
  apply wpFn_seq
  refine wpFn_of (wpIn_wide.2 ?_)
  go_wp2
  apply wpFn_seq
  refine wpFn_of (wpIn_wide.2 ?_)
  go_wp2
  apply wpFn_seq
  refine wpFn_of (wpIn_wide.2 ?_)
  go_wp2
  apply wpFn_seq
  apply wpFn_seq
  refine wpFn_of (wpIn_wide.2 ?_)
  go_wp2_with (go_at_call 72; refine (hln _ _).mono ?_; rintro e w' ⟨rfl, rfl⟩)
  apply wpFn_block
  clear hln hmf
  simp only [Nat.add_assoc, Nat.reduceAdd]
  obtain ⟨W4, hW4⟩ : ∃ W4, ((((w.alloc (.cells #[.func (.func k) #[] lb] 60)).alloc (.cells #[.int .i64 0] 3)).alloc (.cells #[.int .i64 0] 23)).alloc (.cells #[.string s] 9)) = W4 := ⟨_, rfl⟩
  have hz4 : W4.heap.size = n0 + 4 := by rw [← hW4]; simp [hw]
  have b1 : W4.heap[n0]? = some (.cells #[.func (.func k) #[] lb] 60 (0, 0)) := by
    rw [← hW4, heap_alloc_old _ _ (by simp; omega), heap_alloc_old _ _ (by simp; omega), heap_alloc_old _ _ (by simp; omega), ← hw, heap_alloc_new]
  have b2 : W4.heap[n0 + 1]? = some (.cells #[.int .i64 0] 3 (0, 0)) := by
    have := heap_alloc_new (w.alloc (.cells #[.func (.func k) #[] lb] 60)) (.cells #[.int .i64 0] 3)
    rw [World.size_alloc, hw] at this
    rw [← hW4, heap_alloc_old _ _ (by simp; omega), heap_alloc_old _ _ (by simp; omega), this]
  have b3 : W4.heap[n0 + 2]? = some (.cells #[.int .i64 0] 23 (0, 0)) := by
    have := heap_alloc_new ((w.alloc (.cells #[.func (.func k) #[] lb] 60)).alloc (.cells #[.int .i64 0] 3)) (.cells #[.int .i64 0] 23)
    rw [World.size_alloc, World.size_alloc, hw] at this
    rw [← hW4, heap_alloc_old _ _ (by simp; omega), this]
  have b4 : W4.heap[n0 + 3]? = some (.cells #[.string s] 9 (0, 0)) := by
    have := heap_alloc_new (((w.alloc (.cells #[.func (.func k) #[] lb] 60)).alloc (.cells #[.int .i64 0] 3)).alloc (.cells #[.int .i64 0] 23)) (.cells #[.string s] 9)
    rw [World.size_alloc, World.size_alloc, World.size_alloc, hw] at this
    rw [← hW4, this]
  have c4 : ∀ X, Chg X w W4 := fun X => by
    rw [← hW4]
    exact Chg.of_new ((((((Below.refl _ w).alloc (Nat.le_refl _) _).alloc (by simp) _).alloc (by simp; omega) _).alloc (by simp; omega) _))
  have st4 : St st0 W4 := hSt _ _ _ hSt0 (c4 _)
  rw [hW4]
  clear hW4 hSt0
  refine wpFn_range (fd := Tryz.f31) Tryz.func31 (gf := 101) (lb := #[.pointer (some ⟨n0 + 3, 0, none⟩)]) rfl (enters_of Tryz.func101 (by kernel_rfl) rfl) (lines_hands (n0 + 3) s (by omega)) (fun _ => rfl)
    (RJ step st0 St base n0 w (.func (.func k) #[] lb) s) (RP step st0 St base n0 w) ?h0 ?hIl ?hId ?hIc
    (fun x => { tmps := #[.string s, .func (.func k) #[] lb, undef, .pointer (some ⟨n0, 0, none⟩), .pointer (some ⟨n0 + 1, 0, none⟩), .pointer (some ⟨n0 + 2, 0, none⟩), .int .i64 (x.1 : Int), .string ⟨x.2.toArray⟩, .string s, .int .i64 s.size, .bool (decide ((16384 : Int) < s.size)), .func (.func 71) #[] #[.pointer (some ⟨n0 + 2, 0, none⟩)], .string s, .func (.func 101) #[] #[.pointer (some ⟨n0 + 3, 0, none⟩)], .int .i64 (x.1 : Int), .string ⟨x.2.toArray⟩, undef, undef, undef, undef], defers := [] }) ?assign ?body ?done ?panic
  case h0 =>
    intro o1 o2
    have hc : Chg (fun _ => False) W4 ((W4.alloc o1).alloc o2) := Chg.of_new (((Below.refl _ _).alloc (Nat.le_refl _) _).alloc (by simp) _)
    have key : ∀ b o, W4.heap[b]? = some o → ((W4.alloc o1).alloc o2).heap[b]? = some o := fun b o ho => (hc.block b (lt_of_block ho) (by simp)).trans ho
    exact ⟨⟨st0, rfl, hSt _ _ _ st4 (hc.mono (fun b _ e => e.elim))⟩, key _ _ b1, ⟨_, key _ _ b2⟩, key _ _ b3, key _ _ b4, by simp; omega, (c4 _).trans hc (fun b _ e => e.elim)⟩
  case hIl => exact fun pre W o h => h.step hSt hbase ((chg_putObj W _ o).mono fun b _ e => by rw [hz4] at e; omega)
  case hId => exact fun pre W j h => h.step hSt hbase (chg_drewN _ W j)
  case hIc =>
    intro pre W h
    refine ⟨cell_of_one h.tx, ?_⟩
    obtain ⟨m, hm⟩ := (hT.belowB hNG (h.chg.below (by omega))).mx
    exact ⟨m, hm⟩
  case assign =>
    intro x W K hK
    gi_wp2
    exact hK
  case body =>
    intro pre x post W hx h
    obtain ⟨p, ln⟩ := x
    have hmem := lines_mem (show (p, ln) ∈ linesL s.data.toList by rw [hx]; simp)
    obtain ⟨L, hL⟩ : ∃ L : ByteArray, (⟨ln.toArray⟩ : ByteArray) = L := ⟨_, rfl⟩
    have hLd : ln = L.data.toList := by rw [← hL]
    obtain ⟨⟨st, hfold, hst⟩, hf', ⟨xa, ha⟩, he, htx, hsz, hchg⟩ := h
    have k1 := cell_of_one hf'
    have k2 := cell_of_one ha
    have k3 := free_of_one ha
    have cW1 : Chg (fun b => b = n0 + 1) W (W.setCell ⟨n0 + 1, 0, none⟩ (.int .i64 (p : Int))) := chg_setCell W (n0 + 1) 0 _
    have hst1 := hSt _ _ _ hst (cW1.mono fun b _ e => by omega)
    have cw1 := hchg.trans cW1 fun b _ e => by omega
    have hcall := hf st _ L hst1 (hT.belowB hNG (cw1.below (by omega))) (by have := cW1.size; omega) (by
        intro h0
        exact hmem.1 (by rw [hLd]; exact data_nil h0)) (by
        have := hmem.2.1
        simp only at this
        rw [Lib.size_eq, ← hLd]
        rw [← Lib.size_eq] at this
        omega)
    rw [← hLd] at hcall
    have hx2 : (fun x : Nat × Bs => Value.string ⟨x.2.toArray⟩) (p, ln) = .string L := by show Value.string ⟨ln.toArray⟩ = _; rw [hL]
    have HH := Lib.hid hfold
    simp only [hL]
    rw [hz4]
    clear hSt hf hfold hst hst1 hL hLd hx2 hmem hx c4 st4 b1 b2 b3 b4
    have HA := Lib.hid ha
    have HE := Lib.hid he
    have HX := Lib.hid htx
    have HF := Lib.hid hf'
    clear ha he htx hf'
    gi_wp2
    refine ⟨trivial, (CallsIn.inRound _ (callsIn_wide.2 hcall)).mono ?_⟩
    have ka : (W.setCell ⟨n0 + 1, 0, none⟩ (.int .i64 (p : Int))).heap[n0 + 1]? = some (.cells #[.int .i64 (p : Int)] 3 (0, 0)) := one_setCell HA.out
    have kk : ∀ b, b ≠ n0 + 1 → b < W.heap.size → (W.setCell ⟨n0 + 1, 0, none⟩ (.int .i64 (p : Int))).heap[b]? = W.heap[b]? := fun b h1 h2 => cW1.block b h2 h1
    have hz1 : W.heap.size ≤ (W.setCell ⟨n0 + 1, 0, none⟩ (.int .i64 (p : Int))).heap.size := cW1.size
    rintro e W3 ⟨hc3, (⟨st', hst', rfl, hS'⟩ | ⟨hn, rfl, hS'⟩)⟩
    · gi_wp2
      have kb : ∀ b, b < n0 + 6 → n0 ≤ b → W3.heap[b]? = (W.setCell ⟨n0 + 1, 0, none⟩ (.int .i64 (p : Int))).heap[b]? := fun b h1 h2 => hc3.block b (by omega) (by omega)
      refine ⟨by rw [kb _ (by omega) (by omega), kk _ (by omega) (by omega)], by rw [kb _ (by omega) (by omega), kk _ (by omega) (by omega)], ⟨⟨st', by rw [List.map_append]; exact (fold_snoc step _ _ _ _ HH.out).trans hst', hS'⟩, ?_, ⟨p, ?_⟩, ?_, ?_, ?_, ?_⟩⟩
      · rw [kb _ (by omega) (by omega), kk _ (by omega) (by omega)]; exact HF.out
      · rw [kb _ (by omega) (by omega)]; exact ka
      · rw [kb _ (by omega) (by omega), kk _ (by omega) (by omega)]; exact HE.out
      · rw [kb _ (by omega) (by omega), kk _ (by omega) (by omega)]; exact HX.out
      · have := hc3.size; omega
      · exact cw1.trans hc3 fun b _ e => by omega
    · have kb : ∀ b, b < n0 + 6 → n0 ≤ b → W3.heap[b]? = (W.setCell ⟨n0 + 1, 0, none⟩ (.int .i64 (p : Int))).heap[b]? := fun b h1 h2 => hc3.block b (by omega) (by omega)
      refine ⟨rfl, by rw [kb _ (by omega) (by omega), kk _ (by omega) (by omega)], ⟨⟨st, HH.out, hn, hS'⟩, ?_, ?_, rfl, ?_⟩⟩
      · rw [kb _ (by omega) (by omega)]; exact ka
      · rw [kb _ (by omega) (by omega), kk _ (by omega) (by omega)]; exact HE.out
      · exact cw1.trans hc3 fun b _ e => by omega
  case done =>
    intro W h hD
    obtain ⟨⟨st, hfold, hst⟩, hf', ⟨xa, ha⟩, he, htx, hsz, hchg⟩ := h
    have k1 := cell_of_one ha
    have k2 := free_of_one ha
    have k3 := cell_of_one he
    have k4 := free_of_one he
    have c1 : Chg (fun b => b = n0 + 1) W (W.setCell ⟨n0 + 1, 0, none⟩ (.int .i64 0)) := chg_setCell W (n0 + 1) 0 _
    have c2 : Chg (fun b => b = n0 + 2) (W.setCell ⟨n0 + 1, 0, none⟩ (.int .i64 0)) ((W.setCell ⟨n0 + 1, 0, none⟩ (.int .i64 0)).setCell ⟨n0 + 2, 0, none⟩ (.int .i64 0)) := chg_setCell _ (n0 + 2) 0 _
    have c12 : Chg (fun b => b = n0 + 1 ∨ b = n0 + 2) W ((W.setCell ⟨n0 + 1, 0, none⟩ (.int .i64 0)).setCell ⟨n0 + 2, 0, none⟩ (.int .i64 0)) := (c1.mono fun b _ e => Or.inl e).trans c2 fun b _ e => Or.inr e
    rw [hz4] at hD
    have hD2 := (c12.block (n0 + 4) (by omega) (by omega)).trans hD
    have ha2 : ((W.setCell ⟨n0 + 1, 0, none⟩ (.int .i64 0)).setCell ⟨n0 + 2, 0, none⟩ (.int .i64 0)).heap[n0 + 1]? = some (.cells #[.int .i64 0] 3 (0, 0)) := (c2.block (n0 + 1) (by have := c1.size; omega) (by omega)).trans (one_setCell ha)
    have he2 : ((W.setCell ⟨n0 + 1, 0, none⟩ (.int .i64 0)).setCell ⟨n0 + 2, 0, none⟩ (.int .i64 0)).heap[n0 + 2]? = some (.cells #[.int .i64 0] 23 (0, 0)) := one_setCell ((c1.block (n0 + 2) (by omega) (by omega)).trans he)
    have hread := Lib.hid (readAll_done step _ _ _ hfold)
    rw [hz4]
    clear hD hfold
    show wpFn _ _ _ _ _ _ _ _
    refine wpFn_of (wpIn_wide.2 ?_)
    go_wp2
    generalize hWE : (W.setCell ⟨n0 + 1, 0, none⟩ (.int .i64 0)).setCell ⟨n0 + 2, 0, none⟩ (.int .i64 0) = W5 at *
    have c5 : Chg (fun b => b = n0 + 4) W5 (W5.putObj (n0 + 4) (.deferred none)) := chg_putObj W5 _ _
    have ha5 := cell_of_one ((c5.block (n0 + 1) (lt_of_block ha2) (by omega)).trans ha2)
    have he5 := cell_of_one ((c5.block (n0 + 2) (lt_of_block he2) (by omega)).trans he2)
    refine ⟨by simp, Or.inl ⟨_, _, rfl, run_takeDeferred hD2, ?_⟩⟩
    refine ⟨by simp, Or.inr ⟨fun _ => by omega, .func 71, #[.pointer (some ⟨n0 + 2, 0, none⟩)], 71, #[.pointer (some ⟨n0 + 2, 0, none⟩)], rfl, by simp [go_sem], fun g _ => trivial, ?_⟩⟩
    refine (idleH _ (n0 + 2) _).mono ?_
    rintro e u' w' ⟨rfl, rfl, rfl⟩
    refine ⟨.tuple #[.int .i64 0, .int .i64 0], by simp [results, Tryz.results31, ha5, he5, go_sem]; try rfl, ?_⟩
    have hst5 := hSt _ _ _ hst (((c12.mono (Y := fun b => b = n0 + 1 ∨ b = n0 + 2 ∨ b = n0 + 4) (fun b _ e => by omega)).trans c5 (fun b _ e => by omega)).mono fun b _ e => by omega)
    refine ⟨st, 0, 0, hread.out, rfl, fun _ => hst5, ⟨st, hst5⟩, ?_⟩
    · exact ((hchg.trans c12 fun b _ e => by omega).trans c5 fun b _ e => by omega).below (by omega)
  case panic =>
    intro pre x post ch W hx h hD
    obtain ⟨p, ln⟩ := x
    obtain ⟨⟨st, hfold, hn, hSx⟩, ha, he, rfl, hchg⟩ := h
    have hread := Lib.hid (readAll_stop step pre p ln post _ _ hfold hn)
    rw [hz4] at hD ⊢
    show LeavesInM _ _ _ _ _ _ _ _ _
    have c5 : Chg (fun b => b = n0 + 4) W (W.putObj (n0 + 4) (.deferred none)) := chg_putObj W _ _
    have ha5 := (c5.block (n0 + 1) (lt_of_block ha) (by omega)).trans ha
    have he5 := (c5.block (n0 + 2) (lt_of_block he) (by omega)).trans he
    have hB5 := (hchg.trans c5 fun b _ e => by omega)
    have hS5 := hSt _ _ _ hSx (c5.mono fun b _ e => by omega)
    refine ⟨by simp, Or.inl ⟨_, _, rfl, run_takeDeferred hD, ?_⟩⟩
    generalize W.putObj (n0 + 4) (.deferred none) = W5 at *
    refine ⟨by simp, Or.inr ⟨fun _ => by omega, .func 71, #[.pointer (some ⟨n0 + 2, 0, none⟩)], 71, #[.pointer (some ⟨n0 + 2, 0, none⟩)], rfl, by simp [go_sem], fun g _ => trivial, ?_⟩⟩
    refine (catchH _ (n0 + 2) _ W5 he5).mono ?_
    rintro e u' w' ⟨rfl, rfl, rfl⟩
    have c6 : Chg (fun b => b = n0 + 2) W5 ((W5.alloc (.cells #[] 97)).setCell ⟨n0 + 2, 0, none⟩ (.int .i64 3)) := (chg_alloc _ W5 _).trans (chg_setCell _ (n0 + 2) 0 _) fun b _ e => e
    have ha6 := cell_of_one ((c6.block (n0 + 1) (lt_of_block ha5) (by omega)).trans ha5)
    have he6 : ((W5.alloc (.cells #[] 97)).setCell ⟨n0 + 2, 0, none⟩ (.int .i64 3)).cell? ⟨n0 + 2, 0, none⟩ = some (.int .i64 3) := cell_of_one (one_setCell (((chg_alloc (fun _ => False) W5 (.cells #[] 97)).block (n0 + 2) (lt_of_block he5) (by simp)).trans he5))
    refine ⟨.tuple #[.int .i64 (p : Int), .int .i64 3], by simp [results, Tryz.results31, ha6, he6, go_sem]; try rfl, ?_⟩
    exact ⟨[], p, 3, by rw [hx]; exact hread.out, rfl, fun h => (by cases h), ⟨st, hSt _ _ _ hS5 (c6.mono fun b _ e => by omega)⟩, (hB5.trans c6 fun b _ e => by omega).below (by omega)⟩
set_option maxHeartbeats 1000000 in
set_option maxRecDepth 100000 in
theorem read_long (s : ByteArray) (k : Nat) (lb : Array Value) (w : World) (hs : 16384 < s.size) : Calls Tryz.prog 31 #[.string s, .func (.func k) #[] lb] w fun e w' => e = .returned (.tuple #[.int .i64 0, .int .i64 2]) ∧ Below w.heap.size w w' := by
  have h1 : (16384 : Int) < (s.size : Int) := by omega
  go_enter Tryz.func31, Tryz.ntmps31
  go_wp2
  refine bodyPost_ret (v := .tuple #[.int .i64 0, .int .i64 2]) (by simp [results, Tryz.results31, go_sem]) rfl ?_
  exact ⟨rfl, (((Below.refl _ _).alloc (Nat.le_refl _) _).alloc (by simp) _).alloc (by simp; omega) _⟩
end Go.Proofs.YtplipnchkkhdaaaGreatDoor
