/- Walks: the deferred closure of written. -/
import Derived.Test.YtfgmjdhoeilhcaaGreatDoorQf
import Derived.Defers
import Derived.Recover
namespace Go.Proofs.YtfgmjdhoeilhcaaGreatDoor
open Go.RowKit
set_option linter.unusedVariables false

theorem ta1 (w : World) : (Instr.typeAssert (.iface 67 (.agg #[])) 20 67 true).run Tryz.prog w = .ok (.tuple #[.agg #[], .bool true]) w := by
  simp [Instr.typeAssert, run_underlying Tryz.underlying67, go_sem, Result.andThen]
theorem ta0 (w : World) : (Instr.typeAssert .nilIface 20 67 true).run Tryz.prog w = .ok (.tuple #[.agg #[], .bool false]) w := by
  simp [Instr.typeAssert, run_underlying Tryz.underlying67, go_sem, Result.andThen]
set_option maxHeartbeats 1000000 in
set_option maxRecDepth 100000 in
theorem catch_long (b : Nat) (x y : Value) (older : List PanicEntry) (w : World) (hp : w.cell? ⟨b, 0, none⟩ = some x) (hr : w.cell? ⟨b + 1, 0, none⟩ = some y) (hpz : w.frozen? ⟨b, 0, none⟩ = false) (hrz : w.frozen? ⟨b + 1, 0, none⟩ = false) :
    CallsD Tryz.prog 63 #[.pointer (some ⟨b, 0, none⟩), .pointer (some ⟨b + 1, 0, none⟩)] (.panicking ({ v := .iface 67 (.agg #[]), recovered := false } :: older)) w fun e u' w' =>
      e = .returned (.tuple #[]) ∧ u' = .panicking ({ v := .iface 67 (.agg #[]), recovered := true } :: older) ∧ w' = ((w.alloc (.cells #[] 67)).setCell ⟨b, 0, none⟩ (.string ⟨#[]⟩)).setCell ⟨b + 1, 0, none⟩ (.int .i64 2) := by
  refine callsD_of_wpS Tryz.func63 rfl fun c₀ cs hu => ?_
  apply wpS_seq
  apply wpS_region
  simp [wpOpsS, go_sem, recoverD, hu, Tryz.ntmps63, Exit.thenS, ta1]
  apply wpS_seq
  apply wpS_region
  simp [wpOpsS, go_sem, Exit.thenS]
  refine wpS_cond (t := true) (by simp [Act.eval, Array.replicate]) ?_
  simp only [if_true]
  have hb0 : Below w.heap.size w (w.alloc (.cells #[] 67)) := (Below.refl _ w).alloc (Nat.le_refl _) _
  have k1 := (hb0.cell (p := ⟨b, 0, none⟩) (cell_lt hp)).trans hp
  have k2 := (hb0.cell (p := ⟨b + 1, 0, none⟩) (cell_lt hr)).trans hr
  have f1 := frz (hb0.block b (cell_lt hp)) 0 hpz
  have f2 := frz (hb0.block (b + 1) (cell_lt hr)) 0 hrz
  apply wpS_region
  simp [wpOpsS, go_sem, k1, k2, f1, f2, bodyPostS, results, Tryz.results63]
set_option maxHeartbeats 1000000 in
set_option maxRecDepth 100000 in
theorem catch_idle (b : Nat) (w : World) :
    CallsD Tryz.prog 63 #[.pointer (some ⟨b, 0, none⟩), .pointer (some ⟨b + 1, 0, none⟩)] .returning w fun e u' w' => e = .returned (.tuple #[]) ∧ u' = .returning ∧ w' = w.alloc (.cells #[] 67) := by
  refine callsD_of_wpS Tryz.func63 rfl fun c₀ cs hu => ?_
  apply wpS_seq
  apply wpS_region
  simp [wpOpsS, go_sem, recoverD, hu, Tryz.ntmps63, Exit.thenS, ta0]
  apply wpS_seq
  apply wpS_region
  simp [wpOpsS, go_sem, Exit.thenS]
  refine wpS_cond (t := false) (by simp [Act.eval, Array.replicate]) ?_
  simp only [Bool.false_eq_true, if_false]
  refine wpS_of_wp (wp_skip ?_)
  cases c₀
  simp_all [bodyPostS, results, Tryz.results63]
end Go.Proofs.YtfgmjdhoeilhcaaGreatDoor
