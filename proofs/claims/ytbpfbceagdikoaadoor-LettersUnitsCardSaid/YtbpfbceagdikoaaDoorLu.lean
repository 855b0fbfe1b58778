/- The reference's Unquote: its helper and the append of one byte. -/
import Derived.Test.YtbpfbceagdikoaaDoorW8
import Derived.Test.YtbpfbceagdikoaaDoorPlain4
import Derived.Deep.RegionHeld3
namespace Go.Proofs.YtbpfbceagdikoaaDoor
open Go.RowKit
set_option linter.unusedVariables false

set_option maxHeartbeats 1000000 in
set_option maxRecDepth 100000 in
theorem digit_any (c : UInt8) (w : World) :
    Calls Tryd.prog 51 #[.int .u8 c.toNat] w fun e w' => e = .returned (.int .i64 (digB c)) ∧ w = w' := by
  have hlt := UInt8.toNat_lt c
  have hD : Hid (digB c = if 48 ≤ c.toNat ∧ c.toNat ≤ 57 then (c.toNat : Int) - 48 else if 97 ≤ c.toNat ∧ c.toNat ≤ 102 then (c.toNat : Int) - 87 else -1) := rfl
  obtain ⟨n, hn⟩ : ∃ n, c.toNat = n := ⟨_, rfl⟩
  rw [hn] at hD hlt ⊢
  generalize digB c = d at hD
  by_cases h1 : 48 ≤ n ∧ n ≤ 57
  · have e : Hid (d = (n : Int) - 48) := by rw [Hid, hD.out, if_pos h1]
    clear hD hn
    obtain ⟨h1, h2⟩ := h1
    go_enter Tryd.func51, Tryd.ntmps51
    go_wp2
    go_returns
    exact ⟨ret_int (by rw [e.out]), rfl⟩
  · by_cases h2 : 97 ≤ n ∧ n ≤ 102
    · have e : Hid (d = (n : Int) - 87) := by rw [Hid, hD.out, if_neg h1, if_pos h2]
      have h3 : ¬ n ≤ 57 := by omega
      clear hD hn h1
      obtain ⟨h1, h2⟩ := h2
      go_enter Tryd.func51, Tryd.ntmps51
      go_wp2
      go_returns
      exact ⟨ret_int (by rw [e.out]; omega), rfl⟩
    · have e : Hid (d = -1) := by rw [Hid, hD.out, if_neg h1, if_neg h2]
      have h3 : n < 48 ∨ (57 < n ∧ n < 97) ∨ 102 < n := by omega
      clear hD hn h1 h2
      rcases h3 with h3 | ⟨h3, h4⟩ | h3
      all_goals
        go_enter Tryd.func51, Tryd.ntmps51
        go_wp2
        go_returns
        exact ⟨ret_int (by rw [e.out]), rfl⟩

section
variable {P : Program}
/-- append of one element that has just been laid in a block of its own, at a step of a region that draws -/
theorem step_app1 {ops : Array Oper} {o : Oper} {a : Act} {K : Act → World → Prop} {Q : Exit → Act → World → Prop} {E : Prop} {w : World} {e : TypeId} {u : Value} (hgd : o.guard = none) (s x : Operand) (t : TypeId)
    (ho : o.op = .call { callee := .builtin .append, args := #[s, x], argTypes := #[t, t] })
    (B : Nat) (i : TypeInfo) (z : Value) (bytes : Nat) (ht : P.underlying t = some (.slice e)) (hi : P.info? e = some i) (hz : i.zero = some z)
    (hsize : i.size = 1) (hby : i.bytes = bytes) (hzs : z.cells.size = 1)
    (v : Value) (cs : List Value) (hs : a.eval s = v) (hown : Own B e v cs w) (c : Nat) (hx : a.eval x = .slice (some ⟨w.heap.size, 0, none⟩) 1 c) (h1 : u.oneCell' = true)
    (hb1 : cs.length + 1 ≤ maxLen) (hbytes : (cs.length + 1) * bytes ≤ 140737488355328) (hB : B ≤ w.heap.size)
    (h : ∀ v' w', Own B e v' (cs ++ [u]) w' → Below B w w' → K (a.put o.dst v') w') :
    if Region.wanted o (yielded ops a.tmps) = true then Oper.wp P o a (w.alloc (.cells #[u] e)) K Q else E := by
  have hw : Region.wanted o (yielded ops a.tmps) = true := by simp [Region.wanted, hgd]
  rw [if_pos hw]
  refine wp_append_own _ s x t ho B e i z 1 bytes ht hi hz hsize hby hzs (by decide) v cs.length cs hs (hown.alloc _) ⟨w.heap.size, 0, none⟩ 1 c [u] hx rfl ?_ ?_ hb1 hbytes (by simp; omega) ?_
  · intro j y hy
    match j, hy with
    | 0, hy => simp at hy; subst hy; simp [Addr.add]
  · intro y hy; simp at hy; subst hy; exact h1
  · intro v' w' h2 h3 h4
    have hg : w.grownBy w' v.ownBlock := ⟨h3.os, h3.tape, h3.output, Nat.le_trans (by simp) h3.size, fun k hk hne => (h3.block k (by simp; omega) hne).trans (Below.heap_alloc w _ k hk)⟩
    refine h v' w' (by unfold Own; rw [List.length_append]; exact h2) ?_
    exact (Below.refl B w).grown hg hB (fun k hk => (hown.lt k hk).1)
/-- the same behind a draw -/
theorem step_app1D {ops : Array Oper} {o : Oper} {a : Act} {K : Act → World → Prop} {Q : Exit → Act → World → Prop} {E : Prop} {w : World} {e : TypeId} {u : Value} (hgd : o.guard = none) (s x : Operand) (t : TypeId)
    (ho : o.op = .call { callee := .builtin .append, args := #[s, x], argTypes := #[t, t] })
    (B : Nat) (i : TypeInfo) (z : Value) (bytes : Nat) (ht : P.underlying t = some (.slice e)) (hi : P.info? e = some i) (hz : i.zero = some z)
    (hsize : i.size = 1) (hby : i.bytes = bytes) (hzs : z.cells.size = 1)
    (v : Value) (cs : List Value) (hs : a.eval s = v) (hown : Own B e v cs w) (c : Nat) (hx : a.eval x = .slice (some ⟨w.heap.size, 0, none⟩) 1 c) (h1 : u.oneCell' = true)
    (hb1 : cs.length + 1 ≤ maxLen) (hbytes : (cs.length + 1) * bytes ≤ 140737488355328) (hB : B ≤ w.heap.size)
    (h : ∀ v' w', Own B e v' (cs ++ [u]) w' → Below B w w' → K (a.put o.dst v') w') :
    if Region.wanted o (yielded ops a.tmps) = true then Oper.wp P o a (w.alloc (.cells #[u] e)).drew K Q else E :=
  step_app1 (w := w.drew) hgd s x t ho B i z bytes ht hi hz hsize hby hzs v cs hs hown c hx h1 hb1 hbytes hB (fun v' w' h2 h3 => h v' w' h2 ((Below.refl B w).drew.trans h3))
end


theorem headD_drop (s : ByteArray) (k : Nat) (h : k < s.size) : (s.data.toList.drop k).headD 0 = s[k] := by rw [drop_byte s k h]; rfl
theorem getD_drop (s : ByteArray) (k j : Nat) (h : k + j < s.size) : (s.data.toList.drop k).getD j 0 = s[k + j] := by
  have e : (s.data.toList.drop k).getD j 0 = ((s.data.toList.drop k).drop j).headD 0 := by
    rw [List.getD_eq_getElem?_getD, List.headD_eq_head?_getD, List.head?_drop]
  rw [e, List.drop_drop, headD_drop s (k + j) h]
theorem length_drop_size (s : ByteArray) (k : Nat) : (s.data.toList.drop k).length = s.size - k := by rw [List.length_drop, ← Lib.size_eq]
/-- one step of the reader, at a place of a string -/
theorem ref_next {s : ByteArray} {k : Nat} {done : Bs} {x : UInt8} {m : Nat} (h : k < s.size) (H : refR s.data.toList = done ++ refR (s.data.toList.drop k)) (hs : stepR (s.data.toList.drop k) = (x, m)) :
    refR s.data.toList = (done ++ [x]) ++ refR (s.data.toList.drop (k + m)) := by
  have hne : s.data.toList.drop k ≠ [] := by intro e; have := length_drop_size s k; rw [e] at this; simp at this; omega
  rw [H, refR_step _ hne, hs, List.append_assoc, List.drop_drop]; rfl
end Go.Proofs.YtbpfbceagdikoaaDoor
