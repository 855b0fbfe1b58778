/- Owned rows: a prefix of one. -/
import Derived.Test.YtfgmjdhoeilhcaaGreatDoorRb
namespace Go.Proofs.YtfgmjdhoeilhcaaGreatDoor
open Go.RowKit
set_option linter.unusedVariables false

theorem Own.upto {B : Nat} {e : TypeId} {A : Option Addr} {n c : Nat} {cs : List Value} {w : World} (h : Own B e (.slice A n c) cs w) {k : Nat} (hk : k ≤ cs.length) : Own B e (.slice A k c) (cs.take k) w := by
  unfold Own at h ⊢
  have hl : (cs.take k).length = k := by rw [List.length_take]; omega
  rw [hl]
  refine ⟨by rw [hl]; simp, ?_⟩
  rcases h.2 with ⟨h', h0⟩ | ⟨g, cap, cur, h', hb, hg, hnc, hcm, hcs, htake⟩
  · left
    simp only [Value.slice.injEq] at h'
    obtain ⟨rfl, rfl, rfl⟩ := h'
    obtain rfl : k = 0 := by omega
    exact ⟨rfl, rfl⟩
  · right
    simp only [Value.slice.injEq] at h'
    obtain ⟨rfl, hn, rfl⟩ := h'
    refine ⟨g, c, cur, rfl, hb, hg, by omega, hcm, hcs, ?_⟩
    rw [← htake, List.take_take]
    congr 1
    omega
theorem Own.lower {B B' : Nat} {e : TypeId} {v : Value} {cs : List Value} {w : World} (h : Own B e v cs w) (hB : B' ≤ B) : Own B' e v cs w := by
  unfold Own at h ⊢
  refine ⟨h.1, ?_⟩
  rcases h.2 with h' | ⟨g, cap, cur, h', hb, hrest⟩
  · exact Or.inl h'
  · exact Or.inr ⟨g, cap, cur, h', Nat.le_trans hB hb, hrest⟩
end Go.Proofs.YtfgmjdhoeilhcaaGreatDoor
