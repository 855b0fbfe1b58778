/- Walks: digits, natural of rat. -/
import Derived.Test.YtfgmjdhoeilhcaaGreatDoorQl
import Derived.Shelf.Strings.SlTrimAscii
namespace Go.Proofs.YtfgmjdhoeilhcaaGreatDoor
open Go.RowKit
set_option linter.unusedVariables false

/-- at least one byte, and digits only -/
def digB (l : Bs) : Bool := !l.isEmpty && l.all isDig
def ten : Bs := [48, 49, 50, 51, 52, 53, 54, 55, 56, 57]
theorem ten_dig (c : UInt8) : ten.contains c = isDig c := by
  have h : c.toNat < 256 := c.toNat_lt
  by_cases hd : isDig c = true
  · rw [hd]
    rw [isDig_iff] at hd
    obtain ⟨h1, h2⟩ := hd
    have : c = 48 ∨ c = 49 ∨ c = 50 ∨ c = 51 ∨ c = 52 ∨ c = 53 ∨ c = 54 ∨ c = 55 ∨ c = 56 ∨ c = 57 := by
      have e : ∀ k : UInt8, c.toNat = k.toNat → c = k := fun k hk => UInt8.toNat_inj.1 hk
      rcases (show c.toNat = 48 ∨ c.toNat = 49 ∨ c.toNat = 50 ∨ c.toNat = 51 ∨ c.toNat = 52 ∨ c.toNat = 53 ∨ c.toNat = 54 ∨ c.toNat = 55 ∨ c.toNat = 56 ∨ c.toNat = 57 by omega) with h | h | h | h | h | h | h | h | h | h
      · exact Or.inl (e 48 h)
      · exact Or.inr (Or.inl (e 49 h))
      · exact Or.inr (Or.inr (Or.inl (e 50 h)))
      · exact Or.inr (Or.inr (Or.inr (Or.inl (e 51 h))))
      · exact Or.inr (Or.inr (Or.inr (Or.inr (Or.inl (e 52 h)))))
      · exact Or.inr (Or.inr (Or.inr (Or.inr (Or.inr (Or.inl (e 53 h))))))
      · exact Or.inr (Or.inr (Or.inr (Or.inr (Or.inr (Or.inr (Or.inl (e 54 h)))))))
      · exact Or.inr (Or.inr (Or.inr (Or.inr (Or.inr (Or.inr (Or.inr (Or.inl (e 55 h))))))))
      · exact Or.inr (Or.inr (Or.inr (Or.inr (Or.inr (Or.inr (Or.inr (Or.inr (Or.inl (e 56 h)))))))))
      · exact Or.inr (Or.inr (Or.inr (Or.inr (Or.inr (Or.inr (Or.inr (Or.inr (Or.inr (e 57 h)))))))))
    rcases this with rfl | rfl | rfl | rfl | rfl | rfl | rfl | rfl | rfl | rfl <;> rfl
  · have hd' : isDig c = false := by simpa using hd
    rw [hd']
    apply Bool.eq_false_iff.2
    intro hc
    have hm := List.contains_iff_mem.1 hc
    apply hd
    unfold ten at hm
    simp at hm
    rcases hm with rfl | rfl | rfl | rfl | rfl | rfl | rfl | rfl | rfl | rfl <;> rfl
/-- digits without zeros ahead -/
def natB (l : Bs) : Bs := if Lib.trimLeftB l 48 = [] then [48] else Lib.trimLeftB l 48
theorem dw_nil {p : UInt8 → Bool} : ∀ {l : Bs}, l.dropWhile p = [] ↔ ∀ x ∈ l, p x = true
  | [] => by simp
  | x :: r => by
    by_cases h : p x = true
    · rw [List.dropWhile_cons, if_pos h, dw_nil (l := r)]
      simp [h]
    · rw [List.dropWhile_cons, if_neg h]
      simp [h]
theorem dw_head {p : UInt8 → Bool} : ∀ {l : Bs} {x : UInt8} {r : Bs}, l.dropWhile p = x :: r → p x = false
  | [], x, r, h => by simp at h
  | y :: t, x, r, h => by
    by_cases hp : p y = true
    · rw [List.dropWhile_cons, if_pos hp] at h; exact dw_head h
    · rw [List.dropWhile_cons, if_neg hp] at h
      injection h with h1 _
      rw [← h1]; simpa using hp
theorem dw_mem {p : UInt8 → Bool} {l : Bs} {x : UInt8} (h : x ∈ l.dropWhile p) : x ∈ l := by
  have := List.takeWhile_append_dropWhile (p := p) (l := l)
  rw [← this]
  exact List.mem_append.2 (Or.inr h)
theorem trim_digs (l : Bs) : Lib.trimS l ten = [] ↔ l.all isDig = true := by
  have hp : (fun c => ten.contains c) = isDig := funext ten_dig
  unfold Lib.trimS Lib.trimLeftS Lib.trimRightS
  rw [hp, dw_nil, List.all_eq_true]
  constructor
  · intro h
    have ht : l.reverse.dropWhile isDig = [] := by
      cases ht : l.reverse.dropWhile isDig with
      | nil => rfl
      | cons x r =>
        have h1 := h x (by rw [ht]; simp)
        rw [dw_head ht] at h1
        cases h1
    rw [dw_nil] at ht
    intro x hx
    exact ht x (by simpa using hx)
  · intro h x hx
    rw [List.mem_reverse] at hx
    exact h x (by simpa using dw_mem hx)
theorem empB (s : ByteArray) : (s.toList == []) = decide (s.data.toList = []) := by
  rw [Lib.toList_data]
  cases s.data.toList <;> rfl
theorem empE (s : ByteArray) : s.toList.isEmpty = decide (s.data.toList = []) := by
  rw [Lib.toList_data]
  cases s.data.toList <;> rfl
theorem trim116 : (Tryz.prog.info? (Tryz.lays160_ren.t 116)).map (fun i => (i.zero, i.size)) = some (some (.agg (Array.replicate 256 (.bool false))), 256) := by kernel_rfl

set_option maxHeartbeats 1000000 in
set_option maxRecDepth 100000 in
theorem qdigits_any (s : ByteArray) (w : World) (hs : s.size ≤ 1000000) :
    Calls Tryz.prog 45 #[.string s] w fun e w' => e = .returned (.bool (digB s.data.toList)) ∧ Below w.heap.size w w' := by
  have ht : ∀ W, Calls Tryz.prog 72 #[.string s, .string ⟨#[48, 49, 50, 51, 52, 53, 54, 55, 56, 57]⟩] W fun e w' => e = .returned (.string ⟨(Lib.trimS s.data.toList ten).toArray⟩) ∧ Below W.heap.size W w' := fun W =>
    Any.strings_Trim_laid Tryz.lays160 trim116 s ⟨#[48, 49, 50, 51, 52, 53, 54, 55, 56, 57]⟩ W (by omega) (by decide) (ascii_of_all (by decide))
  obtain ⟨F, hF⟩ : ∃ F : ByteArray, (⟨(Lib.trimS s.data.toList ten).toArray⟩ : ByteArray) = F := ⟨_, rfl⟩
  have hFd : F.data.toList = Lib.trimS s.data.toList ten := by rw [← hF]
  simp only [hF] at ht
  have f1 := empB F
  have f2 := empE F
  have s1 := empB s
  have s2 := empE s
  rw [hFd] at f1 f2
  have htd := trim_digs s.data.toList
  have hA : Below w.heap.size w w := Below.refl _ _
  by_cases h0 : s.data.toList = []
  · have HK : Hid (digB s.data.toList = false) := by unfold Hid digB; rw [h0]; rfl
    rw [decide_eq_true h0] at s1 s2
    clear f1 f2 htd h0 hF hFd
    go_enter Tryz.func45, Tryz.ntmps45
    go_wp2_with fail
    go_returns
    exact ⟨by rw [HK.out]; rfl, hA⟩
  · rw [decide_eq_false h0] at s1 s2
    by_cases hd : s.data.toList.all isDig = true
    · have HK : Hid (digB s.data.toList = true) := by
        unfold Hid digB; rw [hd]
        cases hl : s.data.toList with
        | nil => exact absurd hl h0
        | cons => rfl
      rw [decide_eq_true (htd.2 hd)] at f1 f2
      clear htd h0 hd hF hFd
      go_enter Tryz.func45, Tryz.ntmps45
      go_wp2_with (go_at_call 72; refine (ht _).mono ?_; rintro e w1 ⟨rfl, b1⟩)
      go_returns
      exact ⟨by rw [HK.out]; rfl, b1⟩
    · have HK : Hid (digB s.data.toList = false) := by unfold Hid digB; rw [Bool.eq_false_iff.2 hd]; simp
      rw [decide_eq_false (fun e => hd (htd.1 e))] at f1 f2
      clear htd h0 hd hF hFd
      go_enter Tryz.func45, Tryz.ntmps45
      go_wp2_with (go_at_call 72; refine (ht _).mono ?_; rintro e w1 ⟨rfl, b1⟩)
      go_returns
      exact ⟨by rw [HK.out]; rfl, b1⟩
set_option maxHeartbeats 1000000 in
set_option maxRecDepth 100000 in
theorem qnatural_any (s : ByteArray) (w : World) :
    Calls Tryz.prog 47 #[.string s] w fun e w' => e = .returned (.string ⟨(natB s.data.toList).toArray⟩) ∧ w = w' := by
  have ht := fun W => Tryz.strings_TrimLeft_one s 48 (by decide) W
  obtain ⟨F, hF⟩ : ∃ F : ByteArray, (⟨(Lib.trimLeftB s.data.toList 48).toArray⟩ : ByteArray) = F := ⟨_, rfl⟩
  have hFd : F.data.toList = Lib.trimLeftB s.data.toList 48 := by rw [← hF]
  simp only [hF] at ht
  have f1 := empB F
  have f2 := empE F
  have HK : Hid (natB s.data.toList = if F.data.toList = [] then [48] else F.data.toList) := by unfold Hid natB; rw [hFd]
  clear hFd hF
  by_cases h0 : F.data.toList = []
  · rw [decide_eq_true h0] at f1 f2
    rw [if_pos h0] at HK
    clear h0
    go_enter Tryz.func47, Tryz.ntmps47
    go_wp2_with (go_at_call 79; refine (ht _).mono ?_; rintro e w1 ⟨rfl, rfl⟩)
    go_returns
    exact ⟨by rw [HK.out]; rfl, rfl⟩
  · rw [decide_eq_false h0] at f1 f2
    rw [if_neg h0] at HK
    clear h0
    go_enter Tryz.func47, Tryz.ntmps47
    go_wp2_with (go_at_call 79; refine (ht _).mono ?_; rintro e w1 ⟨rfl, rfl⟩)
    go_returns
    exact ⟨by rw [HK.out]; rfl, rfl⟩
end Go.Proofs.YtfgmjdhoeilhcaaGreatDoor
