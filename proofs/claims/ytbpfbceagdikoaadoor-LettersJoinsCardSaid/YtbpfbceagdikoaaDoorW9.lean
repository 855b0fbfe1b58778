/- Walks of layer 1: a byte written with two hexadecimal digits. -/
import Derived.Test.YtbpfbceagdikoaaDoorWords
import Derived.WalkSpells
import Derived.WalkLawsBesides
import Derived.Deep.Light
namespace Go.Proofs.YtbpfbceagdikoaaDoor
open Go.RowKit
set_option linter.unusedVariables false

def ParsePost (w : World) (r : Option Nat) (e : Ending) (w' : World) : Prop :=
  (e = match r with | some n => .returned (.tuple #[.int .u64 n, .nilIface]) | none => .returned (.tuple #[.int .u64 0, .iface 84 (.int .i64 2)])) ∧ Below w.heap.size w w'

theorem ret_u64 {a : Int} {b : Nat} (h : a = (b : Int)) : Ending.returned (.tuple #[.int .u64 a, .nilIface]) = .returned (.tuple #[.int .u64 (b : Int), .nilIface]) := by rw [h]
theorem low_95 (c : UInt8) (h : lowB c ≤ 122) : ((c.toNat : Int) == 95) = false := by
  have : c.toNat ≠ 95 := by
    intro e
    have : c = 95 := UInt8.toNat_inj.1 e
    subst this
    exact absurd h (by decide)
  simp; omega
theorem low_bits (c : UInt8) : bits .or .u8 (c.toNat : Int) 32 = (lowB c : Int) := by
  have h : ∀ n : Fin 256, bits .or .u8 (n.val : Int) 32 = ((n.val ||| 32 : Nat) : Int) := by decide +kernel
  have h1 := h ⟨c.toNat, c.toNat_lt⟩
  simp only at h1
  rw [h1]; unfold lowB; rw [UInt8.toNat_or]; rfl

set_option maxHeartbeats 4000000 in
set_option maxRecDepth 100000 in
theorem iparse_any (x y : UInt8) (w : World) :
    Calls Tryd.prog 64 #[.string ⟨#[x, y]⟩, .int .i64 16, .int .i64 8] w (ParsePost w (hex2 x y)) := by
  obtain ⟨cap, C, m, hcv, hC0, hC1⟩ : ∃ (cap : Nat) (C : Array Value) (m : Nat × Nat), (convert 9 42 (.string ⟨#[x, y]⟩)).run Tryd.prog w = .ok (.slice (some ⟨w.heap.size, 0, none⟩) 2 cap) (w.alloc (.cells C 5 m)).drew ∧ C[0]? = some (.int .u8 x.toNat) ∧ C[1]? = some (.int .u8 y.toNat) :=
    ⟨_, _, _, run_bytes_of_string w 9 42 5 ⟨#[x, y]⟩ Tryd.underlying9 Tryd.underlying42 Tryd.underlying5, bytesRow_at ⟨#[x, y]⟩ _ 0 (Nat.lt_of_lt_of_eq (by decide : 0 < 2) rfl), bytesRow_at ⟨#[x, y]⟩ _ 1 (Nat.lt_of_lt_of_eq (by decide : 1 < 2) rfl)⟩
  have hc0 : (w.alloc (.cells C 5 m)).cell? ⟨w.heap.size, 0, none⟩ = some (.int .u8 x.toNat) := by rw [World.cell?_alloc_mark]; exact hC0
  have hc1 : (w.alloc (.cells C 5 m)).cell? ⟨w.heap.size, 1, none⟩ = some (.int .u8 y.toNat) := by rw [World.cell?_alloc_mark]; exact hC1
  clear hC0 hC1
  go_enter Tryd.func64, Tryd.ntmps64
  go_wp2_with fail
  go_loopw [12, 13, 101] (fun u v i wr => ∃ (k : Nat) (r : Int), u = .bool false ∧ i = .int .i64 k ∧ k ≤ 2 ∧ v = .int .u64 r ∧ Below w.heap.size w wr ∧ wr.cell? ⟨w.heap.size, 0, none⟩ = some (.int .u8 x.toNat) ∧ wr.cell? ⟨w.heap.size, 1, none⟩ = some (.int .u8 y.toNat) ∧ (k = 0 → r = 0) ∧ 0 ≤ r ∧ (k = 1 → r ≤ 15) ∧ Hid ((k = 1 → hexv x = some r.toNat) ∧ (k = 2 → ∃ a b, hexv x = some a ∧ hexv y = some b ∧ r = 16 * a + b))) (fun _ _ i _ => 2 - (intOf i).toNat)
  case atStart => exact ⟨0, 0, rfl, rfl, by omega, rfl, by go_grown, hc0, hc1, by simp, by omega, by simp, by simp [Hid]⟩
  case round =>
    obtain ⟨k, r, rfl, rfl, hk, rfl, hb, hx, hy, hk0, hr0, hk1, H⟩ := hrel
    by_cases hlt : k < 2
    · obtain ⟨c, hcc, hck⟩ : ∃ c : UInt8, wr.cell? ⟨w.heap.size, k, none⟩ = some (.int .u8 c.toNat) ∧ Hid ((k = 0 → c = x) ∧ (k = 1 → c = y)) := by
        rcases (show k = 0 ∨ k = 1 by omega) with rfl | rfl
        · exact ⟨x, hx, by simp [Hid]⟩
        · exact ⟨y, hy, by simp [Hid]⟩
      have hlc : ∀ (n : Int) W, n = c.toNat → Calls Tryd.prog 68 #[.int .u8 n] W fun e w' => e = .returned (.int .u8 (lowB c)) ∧ W = w' := fun n W hn => by
        rw [hn, ← low_bits]; exact (Tryd.internal_strconv_lower _ W).mono fun _ _ h => ⟨h.1, h.2.symm⟩
      have hcl := lowB_lt c
      have hcb := c.toNat_lt
      have hr15 : r ≤ 15 := by omega
      have HK0 := Lib.hid hk0
      have HK1 := Lib.hid hk1
      clear hk0 hk1 hc0 hc1
      rcases hexv_cases c with ⟨a1, a2, a3⟩ | ⟨a0, a1, a2, a3⟩ | ⟨a0, a1, a2, a3⟩ | ⟨a0, a1, a3⟩
      · have A3 := Lib.hid a3
        clear a3
        go_wp2_with (first | (go_at_call 68; refine (hlc _ _ (by omega)).mono ?_; rintro e w2 ⟨rfl, rfl⟩))
        all_goals
          go_roundw
          case rel =>
            go_light
            have hv : hexv c = some (c.toNat - 48) := A3.out
            rcases (show k = 0 ∨ k = 1 by omega) with rfl | rfl
            · have e0 := HK0.out rfl
              have ec := hck.out.1 rfl
              clear hck
              subst ec
              exact ⟨1, _, rfl, by go_num, by omega, rfl, hb, hx, hy, by omega, by omega, by omega, ⟨fun _ => by rw [hv]; congr 1; omega, by omega⟩⟩
            · have e1 := HK1.out rfl
              have hcy := hck.out.2 rfl
              clear hck
              subst hcy
              exact ⟨2, _, rfl, by go_num, by omega, rfl, hb, hx, hy, by omega, by omega, by omega, ⟨by omega, fun _ => ⟨_, _, H.out.1 rfl, hv, by omega⟩⟩⟩
          case measure => simp [intOf]; omega
      · have A3 := Lib.hid a3
        clear a3
        have n95 : ((c.toNat : Int) == 95) = false := low_95 c (by omega)
        go_wp2_with (first | (go_at_call 68; refine (hlc _ _ (by omega)).mono ?_; rintro e w2 ⟨rfl, rfl⟩))
        all_goals
          go_roundw
          case rel =>
            go_light
            have hv : hexv c = some (lowB c - 87) := A3.out
            rcases (show k = 0 ∨ k = 1 by omega) with rfl | rfl
            · have e0 := HK0.out rfl
              have ec := hck.out.1 rfl
              clear hck
              subst ec
              exact ⟨1, _, rfl, by go_num, by omega, rfl, hb, hx, hy, by omega, by omega, by omega, ⟨fun _ => by rw [hv]; congr 1; omega, by omega⟩⟩
            · have e1 := HK1.out rfl
              have hcy := hck.out.2 rfl
              clear hck
              subst hcy
              exact ⟨2, _, rfl, by go_num, by omega, rfl, hb, hx, hy, by omega, by omega, by omega, ⟨by omega, fun _ => ⟨_, _, H.out.1 rfl, hv, by omega⟩⟩⟩
          case measure => simp [intOf]; omega
      · have A3 := Lib.hid a3
        clear a3
        go_wp2_with (first | (go_at_call 68; refine (hlc _ _ (by omega)).mono ?_; rintro e w2 ⟨rfl, rfl⟩))
        all_goals
          go_returns
          refine ⟨?_, by go_grown⟩
          have hn : hex2 x y = none := by
            unfold hex2
            rcases (show k = 0 ∨ k = 1 by omega) with rfl | rfl
            · rw [← hck.out.1 rfl, A3.out]
            · rw [← hck.out.2 rfl, A3.out]; cases hexv x <;> rfl
          rw [hn]; rfl
      · have A3 := Lib.hid a3
        clear a3
        go_wp2_with (first | (go_at_call 68; refine (hlc _ _ (by omega)).mono ?_; rintro e w2 ⟨rfl, rfl⟩))
        all_goals
          go_returns
          refine ⟨?_, by go_grown⟩
          have hn : hex2 x y = none := by
            unfold hex2
            rcases (show k = 0 ∨ k = 1 by omega) with rfl | rfl
            · rw [← hck.out.1 rfl, A3.out]
            · rw [← hck.out.2 rfl, A3.out]; cases hexv x <;> rfl
          rw [hn]; rfl
    · obtain rfl : k = 2 := by omega
      go_wp2_with fail
      go_returns
      refine ⟨?_, hb⟩
      obtain ⟨a, b, h1, h2, h3⟩ := H.out.2 (by first | rfl | trivial)
      have hn : hex2 x y = some (16 * a + b) := by unfold hex2; rw [h1, h2]
      rw [hn]
      exact ret_u64 (by omega)

set_option maxHeartbeats 1000000 in
set_option maxRecDepth 100000 in
theorem parse_ok (x y : UInt8) (n : Nat) (w : World) (h : hex2 x y = some n) :
    Calls Tryd.prog 55 #[.string ⟨#[x, y]⟩, .int .i64 16, .int .i64 8] w fun e w' => e = .returned (.tuple #[.int .u64 n, .nilIface]) ∧ Below w.heap.size w w' := by
  have hi := iparse_any x y w
  rw [h] at hi
  clear h
  go_enter Tryd.func55, Tryd.ntmps55
  go_wp2_with (go_at_call 64; refine hi.mono ?_; rintro e w1 ⟨rfl, hb⟩)
  go_returns
  exact ⟨rfl, hb⟩
def BadPost (w : World) (e : Ending) (w' : World) : Prop := ∃ N, e = .returned (.tuple #[.int .u64 0, .iface 86 (.pointer (some ⟨N, 0, none⟩))]) ∧ Below w.heap.size w w'
set_option maxHeartbeats 1000000 in
set_option maxRecDepth 100000 in
theorem parse_bad (x y : UInt8) (w : World) (hT : Tabs w) (h : hex2 x y = none) :
    Calls Tryd.prog 55 #[.string ⟨#[x, y]⟩, .int .i64 16, .int .i64 8] w (BadPost w) := by
  have hi := iparse_any x y w
  rw [h] at hi
  clear h
  have hsyn : ∀ w', Below w.heap.size w w' → ∃ te pe, w'.cell? ⟨4, 0, none⟩ = some (.iface te pe) := fun w' hb => (hT.below hb).syn
  have HS := Lib.hid hsyn
  clear hsyn
  go_enter Tryd.func55, Tryd.ntmps55
  go_wp2_with (go_at_call 64; refine hi.mono ?_; rintro e w1 ⟨rfl, hb⟩)
  obtain ⟨te, pe, hv⟩ := HS.out _ hb
  refine (Tryd.strconv_toError_syntax _ ⟨#[x, y]⟩ _ _ _ _ (show (2 : Nat) ≤ 281474976710656 by decide) hv (Or.inr ⟨te, pe, rfl⟩)).mono ?_
  rintro e w2 ⟨N, rfl, _, _, hb2⟩
  go_wp2_with fail
  go_returns
  exact ⟨N, rfl, bstep hb hb2⟩
end Go.Proofs.YtbpfbceagdikoaaDoor
