/- The list of cohorts that Parse makes: what lies in memory between two lines, and how it grows. -/
import Derived.Test.YtplipnchkkhdaaaGreatDoorZ03
import Derived.Deep.AppendLies
import Derived.Laws.NewBlocks
import Derived.Deep.RegionLaw
import Derived.Deep.RegionHeldLaw
namespace Go.Proofs.YtplipnchkkhdaaaGreatDoor
open Go.RowKit
set_option linter.unusedVariables false

theorem frz {w w' : World} {b : Nat} (h : w'.heap[b]? = w.heap[b]?) (o : Nat) (hf : w.frozen? ⟨b, o, none⟩ = false) : w'.frozen? ⟨b, o, none⟩ = false := by
  unfold World.frozen? at hf ⊢
  rw [h]; exact hf
theorem at3 (w : World) (A : Array Value) (t : TypeId) (o : Nat) (v : Value) (h : A[o]? = some v) : (w.alloc (.cells A t)).cell? ⟨w.heap.size, o, none⟩ = some v := by
  rw [cell_of_row (w.alloc _) w.heap.size o A t (0, 0) (heap_alloc_new w _)]
  exact h
theorem fz3 (w : World) (A : Array Value) (t : TypeId) (o : Nat) : (w.alloc (.cells A t)).frozen? ⟨w.heap.size, o, none⟩ = false := by
  unfold World.frozen?
  rw [heap_alloc_new]
  simp
theorem own_chg {X : Nat → Prop} {w w' : World} {base : Nat} {e : TypeId} {size : Nat} {v : Value} {n : Nat} {xs : List Value} (h : w.ownsRow base e size v n xs) (hc : Chg X w w') (hX : ∀ g, v.ownBlock = some g → ¬ X g) : w'.ownsRow base e size v n xs := by
  refine ⟨h.1, ?_⟩
  rcases h.2 with hn | ⟨g, cap, cur, rfl, hb, hg, rest⟩
  · exact Or.inl hn
  · exact Or.inr ⟨g, cap, cur, rfl, hb, (hc.block g (lt_of_block hg) (hX g rfl)).trans hg, rest⟩
theorem own_sl {w : World} {base : Nat} {e : TypeId} {size : Nat} {v : Value} {n : Nat} {xs : List Value} (h : w.ownsRow base e size v n xs) : Sl w v n xs := by
  rcases h.2 with ⟨rfl, rfl⟩ | ⟨g, cap, cur, rfl, hB, hg, hn, hm, hc, ht⟩
  · obtain rfl : xs = [] := List.eq_nil_of_length_eq_zero (by rw [h.1]; omega)
    exact Sl.nil w
  · refine ⟨_, _, rfl, hn, fun _ => ⟨g, 0, rfl, lt_of_block hg, fun j u hu => ?_⟩⟩
    have := World.ownsRow.cells h (g := g) rfl j u hu
    rw [Nat.zero_add]
    have e : (⟨g, 0, none⟩ : Addr).add j = ⟨g, j, none⟩ := by unfold Addr.add; split <;> simp_all
    rwa [e] at this
theorem own_firm {X : Nat → Prop} {w : World} {base : Nat} {e : TypeId} {size : Nat} {v : Value} {n : Nat} {xs : List Value} (h : w.ownsRow base e size v n xs) (hX : ∀ g, v.ownBlock = some g → ¬ X g) : Firm X w (fun w => Sl w v n xs) := by
  intro w' hs hb
  refine own_sl (base := base) (e := e) (size := size) ⟨h.1, ?_⟩
  rcases h.2 with hn | ⟨g, cap, cur, rfl, hB, hg, rest⟩
  · exact Or.inl hn
  · exact Or.inr ⟨g, cap, cur, rfl, hB, (hb g (lt_of_block hg) (hX g rfl)).trans hg, rest⟩
/-- blocks that may still change: what lay there before, the row of the list, the row of the last one's readings -/
def MX (n1 : Nat) (v x : Value) (b : Nat) : Prop := b < n1 ∨ v.ownBlock = some b ∨ x.ownBlock = some b
/-- the list of cohorts between two lines -/
def LstV (n1 : Nat) (w : World) (v : Value) (l : List Coh) : Prop :=
  (l = [] ∧ w.ownsRow n1 29 2 v 0 []) ∨
  ∃ l' c xs x vs, l = l' ++ [c] ∧ xs.length = l'.length ∧ vs.length = c.reads.length ∧ w.ownsRow n1 29 2 v (l'.length + 1) (cohCells l' xs ++ [S c.form, x]) ∧ w.ownsRow n1 50 1 x c.reads.length vs ∧
    (∀ g, x.ownBlock = some g → v.ownBlock ≠ some g) ∧ Firm (MX n1 v x) w (fun w => AllV (fun x (c : Coh) => ReadsV w x c.reads) xs l' ∧ AllV (StrsV w) vs c.reads)
theorem LstV.chg {n1 : Nat} {w w' : World} {v : Value} {l : List Coh} {X : Nat → Prop} (h : LstV n1 w v l) (hc : Chg X w w') (hX : ∀ b, b < w.heap.size → X b → b < n1) : LstV n1 w' v l := by
  have key : ∀ {e : TypeId} {size : Nat} {v : Value} {n : Nat} {xs : List Value}, w.ownsRow n1 e size v n xs → w'.ownsRow n1 e size v n xs := fun h => own_chg h hc fun g hg hx => by
    have := h.lt g hg
    have := hX g this.2 hx
    omega
  rcases h with ⟨h1, h2⟩ | ⟨l', c, xs, x, vs, h1, h2, h3, h4, h5, h6, h7⟩
  · exact Or.inl ⟨h1, key h2⟩
  · exact Or.inr ⟨l', c, xs, x, vs, h1, h2, h3, key h4, key h5, h6, h7.step hc (fun b hb hx => Or.inl (hX b hb hx)) (fun b _ h => h)⟩
theorem LstV.len {n1 : Nat} {w : World} {v : Value} {l : List Coh} (h : LstV n1 w v l) : ∃ cs, w.ownsRow n1 29 2 v l.length cs := by
  rcases h with ⟨rfl, h2⟩ | ⟨l', c, xs, x, vs, rfl, h2, h3, h4, h5, h6, h7⟩
  · exact ⟨_, h2⟩
  · exact ⟨_, by rw [List.length_append]; exact h4⟩
theorem LstV.cohs {n1 : Nat} {w : World} {v : Value} {l : List Coh} (h : LstV n1 w v l) : CohsV w v l := by
  rcases h with ⟨rfl, h2⟩ | ⟨l', c, xs, x, vs, rfl, h2, h3, h4, h5, h6, h7⟩
  · exact ⟨[], own_sl h2, trivial⟩
  · obtain ⟨h8, h9⟩ := h7.now
    refine ⟨xs ++ [x], by rw [cohCells_snoc l' xs c x h2, List.length_append]; exact own_sl h4, h8.snoc ⟨vs, own_sl h5, h9⟩⟩
/-- a form has been appended -/
theorem LstV.form {n1 : Nat} {w w' : World} {v : Value} {l : List Coh} {f : Bs} {g cap : Nat} {cs : List Value} (h : LstV n1 w v l) (hcs : w.ownsRow n1 29 2 v l.length cs)
    (hown : w'.ownsRow n1 29 2 (.slice (some ⟨g, 0, none⟩) (l.length + 1) cap) (l.length + 1) (cs ++ [S f, .slice none 0 0])) (hgr : w.grownBy w' v.ownBlock) (hat : v.ownBlock = some g ∨ w.heap.size ≤ g) :
    LstV n1 w' (.slice (some ⟨g, 0, none⟩) (l.length + 1) cap) (l ++ [⟨f, []⟩]) := by
  have hc := Chg.of_grown hgr
  rcases h with ⟨rfl, h2⟩ | ⟨l', c, xs, x, vs, rfl, h2, h3, h4, h5, h6, h7⟩
  · obtain rfl : cs = [] := List.eq_nil_of_length_eq_zero (by rw [hcs.1]; rfl)
    refine Or.inr ⟨[], ⟨f, []⟩, [], .slice none 0 0, [], rfl, rfl, rfl, hown, World.ownsRow_nil _ _ _ _, fun g hg => by simp [Value.ownBlock] at hg, fun _ _ _ => ⟨trivial, trivial⟩⟩
  · have ecs : cs = cohCells l' xs ++ [S c.form, x] := by
      have a := hcs
      rw [List.length_append] at a
      rcases a.2 with ⟨_, h0⟩ | ⟨g1, cap1, cur1, e1, _, hg1, _, _, _, ht1⟩
      · simp at h0
      · rcases h4.2 with ⟨_, h0⟩ | ⟨g2, cap2, cur2, e2, _, hg2, _, _, _, ht2⟩
        · simp at h0
        · rw [e1] at e2
          simp only [Value.slice.injEq, Option.some.injEq, Addr.mk.injEq, and_true] at e2
          obtain ⟨e2, _⟩ := e2
          subst e2
          rw [hg1] at hg2
          simp only [Option.some.injEq, Obj.cells.injEq, and_true] at hg2
          subst hg2
          rw [← ht1, ← ht2]; rfl
    subst ecs
    have hx := fun gx (hgx : x.ownBlock = some gx) => h5.lt gx hgx
    have hne : ∀ gx, x.ownBlock = some gx → gx ≠ g := fun gx hgx e => by
      subst e
      rcases hat with h | h
      · exact h6 gx hgx h
      · have := (hx gx hgx).2; omega
    have h5' : w'.ownsRow n1 50 1 x c.reads.length vs := own_chg h5 hc fun gx hgx e => h6 gx hgx e
    refine Or.inr ⟨l' ++ [c], ⟨f, []⟩, xs ++ [x], .slice none 0 0, [], rfl, by simp [h2], rfl, ?_, World.ownsRow_nil _ _ _ _, fun g hg => by simp [Value.ownBlock] at hg, ?_⟩
    · rw [cohCells_snoc l' xs c x h2]; exact hown
    · have f1 : Firm (MX n1 (.slice (some ⟨g, 0, none⟩) ((l' ++ [c]).length + 1) cap) (.slice none 0 0)) w' (fun w => AllV (fun x (c : Coh) => ReadsV w x c.reads) xs l' ∧ AllV (StrsV w) vs c.reads) := by
        refine h7.step hc (fun b _ e => Or.inr (Or.inl e)) (fun b hb e => ?_)
        rcases e with e | e | e
        · exact Or.inl e
        · simp only [Value.ownBlock, Option.some.injEq] at e
          subst e
          rcases hat with h | h
          · exact Or.inr (Or.inl h)
          · omega
        · simp [Value.ownBlock] at e
      have f2 : Firm (MX n1 (.slice (some ⟨g, 0, none⟩) ((l' ++ [c]).length + 1) cap) (.slice none 0 0)) w' (fun w => Sl w x c.reads.length vs) := by
        refine own_firm h5' fun gx hgx e => ?_
        rcases e with e | e | e
        · have := (hx gx hgx).1; omega
        · simp only [Value.ownBlock, Option.some.injEq] at e
          exact hne gx hgx e.symm
        · simp [Value.ownBlock] at e
      exact (f1.and f2).mono fun w h => ⟨h.1.1.snoc ⟨vs, h.2, h.1.2⟩, trivial⟩
theorem set_last2 {α : Type} (a : List α) (p q u : α) (j : Nat) (h : j = a.length + 1) : (a ++ [p, q]).set j u = a ++ [p, u] := by
  subst h
  rw [List.set_append_right _ _ (by omega)]
  simp
/-- a reading has been appended to the last cohort -/
theorem LstV.read {n1 : Nat} {w w1 : World} {gv cv : Nat} {l' : List Coh} {c : Coh} {xs vs : List Value} {x y : Value} {r : List Bs} {g cap j : Nat}
    (h2 : xs.length = l'.length) (h3 : vs.length = c.reads.length) (h4 : w.ownsRow n1 29 2 (.slice (some ⟨gv, 0, none⟩) (l'.length + 1) cv) (l'.length + 1) (cohCells l' xs ++ [S c.form, x])) (h5 : w.ownsRow n1 50 1 x c.reads.length vs)
    (h6 : x.ownBlock ≠ some gv) (h7 : Firm (MX n1 (.slice (some ⟨gv, 0, none⟩) (l'.length + 1) cv) x) w (fun w => AllV (fun x (c : Coh) => ReadsV w x c.reads) xs l' ∧ AllV (StrsV w) vs c.reads))
    (hy : Firm (MX n1 (.slice (some ⟨gv, 0, none⟩) (l'.length + 1) cv) x) w (fun w => StrsV w y r))
    (hown : w1.ownsRow n1 50 1 (.slice (some ⟨g, 0, none⟩) (c.reads.length + 1) cap) (c.reads.length + 1) (vs ++ [y])) (hgr : w.grownBy w1 x.ownBlock) (hat : x.ownBlock = some g ∨ w.heap.size ≤ g) (hj : j = 2 * l'.length + 1) :
    LstV n1 (w1.setCell ⟨gv, j, none⟩ (.slice (some ⟨g, 0, none⟩) (c.reads.length + 1) cap)) (.slice (some ⟨gv, 0, none⟩) (l'.length + 1) cv) (l' ++ [{ c with reads := c.reads ++ [r] }]) := by
  have hc := Chg.of_grown hgr
  have hgv := h4.lt gv rfl
  have hne : g ≠ gv := by
    rintro rfl
    rcases hat with h | h
    · exact h6 h
    · omega
  have h4' : w1.ownsRow n1 29 2 (.slice (some ⟨gv, 0, none⟩) (l'.length + 1) cv) (l'.length + 1) (cohCells l' xs ++ [S c.form, x]) := own_chg h4 hc fun b hb e => by
    simp only [Value.ownBlock, Option.some.injEq] at hb
    subst hb
    exact h6 e
  obtain ⟨h8, h9⟩ := h4'.stored j (.slice (some ⟨g, 0, none⟩) (c.reads.length + 1) cap)
  rw [set_last2 _ _ _ _ _ (by rw [cohCells_len l' xs h2]; omega)] at h8
  have hc2 := Chg.of_grown h9
  have hc3 : Chg (MX n1 (.slice (some ⟨gv, 0, none⟩) (l'.length + 1) cv) x) w (w1.setCell ⟨gv, j, none⟩ (.slice (some ⟨g, 0, none⟩) (c.reads.length + 1) cap)) :=
    (hc.mono (fun b _ e => Or.inr (Or.inr e))).trans hc2 fun b _ e => Or.inr (Or.inl e)
  have hMX : ∀ b, b < w.heap.size → MX n1 (.slice (some ⟨gv, 0, none⟩) (l'.length + 1) cv) (.slice (some ⟨g, 0, none⟩) (c.reads.length + 1) cap) b → MX n1 (.slice (some ⟨gv, 0, none⟩) (l'.length + 1) cv) x b := by
    intro b hb e
    rcases e with e | e | e
    · exact Or.inl e
    · exact Or.inr (Or.inl e)
    · simp only [Value.ownBlock, Option.some.injEq] at e
      subst e
      rcases hat with h | h
      · exact Or.inr (Or.inr h)
      · omega
  refine Or.inr ⟨l', { c with reads := c.reads ++ [r] }, xs, .slice (some ⟨g, 0, none⟩) (c.reads.length + 1) cap, vs ++ [y], rfl, h2, by simp [h3], h8, ?_, ?_, ?_⟩
  · have : w1.ownsRow n1 50 1 (.slice (some ⟨g, 0, none⟩) (c.reads.length + 1) cap) (c.reads ++ [r]).length (vs ++ [y]) := by rw [List.length_append]; exact hown
    exact own_chg this hc2 fun b hb e => by
      simp only [Value.ownBlock, Option.some.injEq] at hb e
      exact hne (by omega)
  · intro b hb e
    simp only [Value.ownBlock, Option.some.injEq] at hb e
    exact hne (by omega)
  · have f1 := h7.step hc3 (fun b _ e => e) hMX
    have f2 := hy.step hc3 (fun b _ e => e) hMX
    exact (f1.and f2).mono fun w h => ⟨h.1.1, h.1.2.snoc h.2⟩

/- Walks of layer 33: the function that Parse calls for each line; Parse. -/
open Go.RowKit
set_option linter.unusedVariables false

theorem row_lit (w : World) (cs : List Value) (e : TypeId) : RowAt (w.alloc (.cells cs.toArray e)) (some ⟨w.heap.size, 0, none⟩) cs := fun _ =>
  ⟨w.heap.size, 0, rfl, by simp, fun j u hu => by
    rw [Nat.zero_add, cell_of_row (w.alloc _) w.heap.size j _ _ (0, 0) (heap_alloc_new w _)]
    simpa using hu⟩
theorem cohInfo : (Tryz.prog.info? 29).map (fun i => (i.zero, i.size, i.bytes)) = some (some (.agg #[.string ⟨#[]⟩, .slice none 0 0]), 2, 40) := by kernel_rfl
theorem reaInfo : (Tryz.prog.info? 50).map (fun i => (i.zero, i.size, i.bytes)) = some (some (.agg #[.slice none 0 0]), 1, 24) := by kernel_rfl
theorem own_one {w : World} {B : Nat} {e : TypeId} {v u : Value} (h : Own B e v [u] w) : ∃ g c, v = .slice (some ⟨g, 0, none⟩) 1 c ∧ B ≤ g ∧ g < w.heap.size ∧ w.cell? ⟨g, 0, none⟩ = some u := by
  obtain ⟨g, c, rfl, h1, h2⟩ := World.ownsRow.form h (by simp)
  have := World.ownsRow.cells h (g := g) rfl 0 u rfl
  have e : (⟨g, 0, none⟩ : Addr).add 0 = ⟨g, 0, none⟩ := by unfold Addr.add; split <;> simp_all
  rw [e] at this
  exact ⟨g, c, rfl, h1, h2, this⟩
/-- what the function that Parse calls does with a line -/
def Par1 (base : Nat) (l : List Coh) (L : Bs) (W : World) (e : Ending) (W' : World) : Prop :=
  Chg (fun b => b = base ∨ base + 7 ≤ b) W W' ∧ ((∃ l', lineStep l L = some l' ∧ e = .returned (.tuple #[]) ∧ ∃ v', W'.heap[base]? = some (.cells #[v'] 22 (0, 0)) ∧ LstV (base + 7) W' v' l') ∨ (lineStep l L = none ∧ e = wrongP ∧ ∃ v', W'.heap[base]? = some (.cells #[v'] 22 (0, 0)) ∧ LstV (base + 7) W' v' l))
theorem Par1.no {base : Nat} {l : List Coh} {L : Bs} {W W' : World} {v : Value} (hv : W.heap[base]? = some (.cells #[v] 22 (0, 0))) (hl : LstV (base + 7) W v l) (h : lineStep l L = none) (hb : Below W.heap.size W W') : Par1 base l L W wrongP W' :=
  ⟨Chg.of_new hb, Or.inr ⟨h, rfl, v, (hb.block base (lt_of_block hv)).trans hv, hl.chg (Chg.of_new (X := fun _ => False) hb) fun _ _ e => e.elim⟩⟩
theorem step_form {l : List Coh} {L : Bs} (h9 : L.headD 0 ≠ 9) : lineStep l L = match unquoteL L with
    | some f => if tagOk f = true ∧ l.length < 200 then some (l ++ [⟨f, []⟩]) else none
    | none => none := by
  unfold lineStep
  rw [if_neg h9]
  cases unquoteL L <;> rfl
set_option maxHeartbeats 4000000 in
set_option maxRecDepth 100000 in
theorem parse1_form (base : Nat) (l : List Coh) (W : World) (L : ByteArray) (v : Value) (hb : W.heap[base]? = some (.cells #[v] 22 (0, 0))) (hL : LstV (base + 7) W v l) (hT : TabH W) (hsz : base + 7 ≤ W.heap.size) (hNG : 9 ≤ base) (hs0 : L.size ≠ 0) (hs : L.size ≤ 16384) (h9 : L.data.toList.headD 0 ≠ 9) :
    Calls Tryz.prog 32 #[.string L, .pointer (some ⟨base, 0, none⟩)] W (Par1 base l L.data.toList W) := by
  obtain ⟨ic, ci, cz0, cz1, cz2⟩ := info_parts cohInfo
  have hst := step_form (l := l) h9
  obtain ⟨cs, hcs⟩ := hL.len
  obtain ⟨A, cv, rfl, hcv, _⟩ := own_sl hcs
  have hp0 : 0 < L.size := by omega
  have n9 : (((L[0]'hp0).toNat : Nat) : Int) ≠ 9 := by
    intro e
    apply h9
    rw [← byte0 L hp0]
    exact UInt8.toNat_inj.1 (by have : (9 : UInt8).toNat = 9 := rfl; omega)
  have n9b : ((((L[0]'hp0).toNat : Nat) : Int) != 9) = true := by simpa using n9
  have e0 : (Chg (fun _ => False) W (W.alloc (.cells #[.string L] 9))) := chg_alloc _ _ _
  have b0 : Below W.heap.size W (W.alloc (.cells #[.string L] 9)) := (Below.refl _ _).alloc (Nat.le_refl _) _
  have p1 := unquotes_any (some ⟨W.heap.size, 0, none⟩) 1 [L.data.toList] _ (hT.below b0).t (row_lit W [.string L] 9) (by simp) (by intro x hx; simp only [List.mem_singleton] at hx; subst hx; rw [← Lib.size_eq]; omega)
  unfold UnqPost at p1
  have hu : unqAll [L.data.toList] = (unquoteL L.data.toList).map fun f => [f] := by
    unfold unqAll
    cases unquoteL L.data.toList <;> rfl
  rw [hu] at p1
  clear hu h9
  cases hq : unquoteL L.data.toList with
  | none =>
    rw [hq] at p1 hst
    have HS : Hid (lineStep l L.data.toList = none) := hst
    clear hst hq
    go_enter Tryz.func32, Tryz.ntmps32
    go_wp2_with fail
    refine p1.mono ?_
    rintro e W1 ⟨_, h2⟩
    obtain ⟨rfl, b1⟩ := h2 rfl
    exact ⟨rfl, Par1.no hb hL HS.out (b0.trans (b1.mono (by simp)))⟩
  | some f =>
    rw [hq] at p1 hst
    have HS : Hid (lineStep l L.data.toList = if tagOk f = true ∧ l.length < 200 then some (l ++ [⟨f, []⟩]) else none) := hst
    clear hst hq
    have hcb := cell_of_one hb
    have hfb := free_of_one hb
    have HCS := Lib.hid hcs
    have HL := Lib.hid hL
    have HB := Lib.hid hb
    clear hcs hL hb
    go_enter Tryz.func32, Tryz.ntmps32
    go_wp2_with fail
    refine p1.mono ?_
    rintro e W1 ⟨h1, _⟩
    obtain ⟨u, rfl, hown, b1⟩ := h1 [f] rfl
    clear p1 h1
    obtain ⟨g, c1, rfl, hg1, hg2, hcell⟩ := own_one hown
    have bW1 := bstep b0 b1
    obtain ⟨F, hF⟩ : ∃ F : ByteArray, (⟨f.toArray⟩ : ByteArray) = F := ⟨_, rfl⟩
    have hFd : f = F.data.toList := by rw [← hF]
    have hcell2 : W1.cell? ⟨g, 0, none⟩ = some (.string F) := by rw [← hF]; exact hcell
    have bC : Below W1.heap.size W1 (W1.alloc (.cells #[.string F, .slice none 0 0] 29)) := (Below.refl _ _).alloc (Nat.le_refl _) _
    have bD : Below W1.heap.size W1 ((W1.alloc (.cells #[.string F, .slice none 0 0] 29)).alloc (.cells #[.string F] 9)) := bC.alloc (by simp) _
    have hrow := row_lit (W1.alloc (.cells #[.string F, .slice none 0 0] 29)) [.string F] 9
    rw [World.size_alloc] at hrow
    have bWD := bstep bW1 bD
    have p2 := named_any (some ⟨W1.heap.size + 1, 0, none⟩) 1 [F.data.toList] _ (hT.below bWD).t hrow (by simp)
    have hall : [F.data.toList].all tagOk = tagOk F.data.toList := by simp
    rw [hall] at p2
    rw [hFd] at HS
    have hkF := at3 W1 #[.string F, .slice none 0 0] 29 0 (.string F) rfl
    clear hF hcell hown hrow hall
    have p4 := need_no
    cases hq : tagOk F.data.toList with
    | false =>
      have HX : Hid (lineStep l L.data.toList = none) := by rw [Hid, HS.out, hq]; simp
      rw [hq] at p2
      clear hq
      go_wp2_with fail
      refine p2.mono ?_
      rintro e W3 ⟨rfl, b3⟩
      have bW3 := bstep bWD b3
      go_wp2_with fail
      refine (p4 _).mono ?_
      unfold wrongP
      rintro e W4 ⟨rfl, rfl⟩
      exact ⟨rfl, Par1.no HB.out HL.out HX.out bW3⟩
    | true =>
      rw [hq] at p2
      rw [hq] at HS
      clear hq
      by_cases hlen : l.length < 200
      · have HX : Hid (lineStep l L.data.toList = some (l ++ [⟨F.data.toList, []⟩])) := by rw [Hid, HS.out]; simp [hlen]
        have hl1 : (l.length : Int) < 200 := by omega
        have p3 := need_yes
        go_wp2_with fail
        refine p2.mono ?_
        rintro e W3 ⟨rfl, b3⟩
        have bW3 := bstep bWD b3
        have hcb3 := (bW3.cell (p := ⟨base, 0, none⟩) (show base < W.heap.size by omega)).trans hcb
        have bE : Below (W1.alloc (.cells #[.string F, .slice none 0 0] 29)).heap.size (W1.alloc (.cells #[.string F, .slice none 0 0] 29)) W3 := bstep ((Below.refl _ _).alloc (Nat.le_refl _) _) b3
        have k0 := (bE.cell (p := ⟨W1.heap.size, 0, none⟩) (by simp)).trans (at3 W1 #[.string F, .slice none 0 0] 29 0 _ rfl)
        have k1 := (bE.cell (p := ⟨W1.heap.size, 1, none⟩) (by simp)).trans (at3 W1 #[.string F, .slice none 0 0] 29 1 _ rfl)
        have bT : Below W.heap.size W (W3.alloc (.cells #[.string F, .slice none 0 0] 29)) := bW3.alloc bW3.size _
        have hown3 : (W3.alloc (.cells #[.string F, .slice none 0 0] 29)).ownsRow (base + 7) 29 2 (.slice A l.length cv) l.length cs := own_chg HCS.out (Chg.of_new (X := fun _ => False) bT) (fun _ _ e => e)
        have hL3 : Hid (LstV (base + 7) (W3.alloc (.cells #[.string F, .slice none 0 0] 29)) (.slice A l.length cv) l) := HL.out.chg (Chg.of_new (X := fun _ => False) bT) (fun _ _ e => e.elim)
        have hblk3 : Hid ((W3.alloc (.cells #[.string F, .slice none 0 0] 29)).heap[base]? = some (.cells #[.slice A l.length cv] 22 (0, 0))) := (bT.block base (by omega)).trans HB.out
        have hnews := World.news_of_block (heap_alloc_new W3 (.cells #[.string F, .slice none 0 0] 29))
        have h63 : l.length + 1 ≤ maxLen := by unfold maxLen; omega
        have hby : (l.length + 1) * 40 ≤ 140737488355328 := by omega
        have hbase : base + 7 ≤ (W3.alloc (.cells #[.string F, .slice none 0 0] 29)).heap.size := by have := bT.size; omega
        go_wp2_with fail
        refine (p3 _).mono ?_
        rintro e W4 ⟨rfl, rfl⟩
        go_wp2_with (at_builtin; refine wpList_append_lies _ rfl (.tmp 25) (.tmp 27) 22 rfl (base + 7) 29 ic _ 2 40 Tryz.underlying22 ci cz0 cz1 cz2 rfl (by decide) _ l.length cs rfl hown3 ⟨W3.heap.size, 0, none⟩ 1 1 [.string F, .slice none 0 0] rfl rfl hnews (by simp [Value.oneCell']) (by decide) h63 hby hbase (W3.heap.size + 1) (by simp) ?_; intro g2 cap w5 hown5 hgr5 hat5 hlt5; have hb5 : w5.heap[base]? = some (.cells #[.slice A l.length cv] 22 (0, 0)) := (hgr5.block base (lt_of_block hblk3.out) (fun e => by have := (hown3.lt base e.symm).1; omega)).trans hblk3.out; have hc5 := cell_of_one hb5; have hf5 := free_of_one hb5)
        refine bodyPost_ret (results_none rfl _ _ _) rfl ?_
        have c5 := chg_setCell w5 base 0 (.slice (some ⟨g2, 0, none⟩) (l.length + 1) cap)
        have hl5 := hL3.out.form (f := F.data.toList) hown3 hown5 hgr5 (hat5.imp id fun e => by rw [e]; simp)
        refine ⟨((Chg.of_new bT).trans (Chg.of_grown hgr5) fun b hb e => Or.inr ?_).trans c5 fun b _ e => Or.inl e, Or.inl ⟨_, HX.out, rfl, _, one_setCell hb5, hl5.chg c5 fun b _ e => by omega⟩⟩
        exact (hown3.lt b e).1
      · have HX : Hid (lineStep l L.data.toList = none) := by rw [Hid, HS.out]; simp [hlen]
        have hl1 : decide ((l.length : Int) < 200) = false := decide_eq_false (by omega)
        go_wp2_with fail
        refine p2.mono ?_
        rintro e W3 ⟨rfl, b3⟩
        have bW3 := bstep bWD b3
        have hcb3 := (bW3.cell (p := ⟨base, 0, none⟩) (show base < W.heap.size by omega)).trans hcb
        go_wp2_with fail
        refine (p4 _).mono ?_
        unfold wrongP
        rintro e W4 ⟨rfl, rfl⟩
        exact ⟨rfl, Par1.no HB.out HL.out HX.out bW3⟩

/- Walks of layer 33: the function that Parse calls, at the line of a reading. -/
open Go.RowKit
set_option linter.unusedVariables false

theorem joinS_mem : ∀ (l : List Bs) (w : Bs), w ∈ l → w.length ≤ (joinS l).length
  | [x], w, h => by simp only [List.mem_singleton] at h; subst h; exact Nat.le_refl _
  | x :: y :: r, w, h => by
    rw [joinS, List.length_append, List.length_cons]
    rcases List.mem_cons.1 h with rfl | h
    · omega
    · have := joinS_mem (y :: r) w h
      omega
theorem joinS_count : ∀ (l : List Bs), l.length ≤ (joinS l).length + 1
  | [] => by simp
  | [x] => by simp
  | x :: y :: r => by
    have := joinS_count (y :: r)
    simp only [joinS, List.length_append, List.length_cons] at this ⊢
    omega
theorem words_len (s : Bs) : (wordsL s).length ≤ s.length + 1 := by
  have := joinS_count (wordsL s)
  rwa [join_words] at this
theorem words_mem (s : Bs) : ∀ w ∈ wordsL s, w.length ≤ s.length := by
  intro w h
  have := joinS_mem _ w h
  rwa [join_words] at this
theorem unqAll_len : ∀ {l m : List Bs}, unqAll l = some m → m.length = l.length := fun h => by have := congrArg List.length (unqAll_some h); simpa using this
theorem step_read {l : List Coh} {L : Bs} (h9 : L.headD 0 = 9) : lineStep l L = match unqAll (wordsL L.tail) with
    | some ts => if tagsOk 1 20 ts = true ∧ l ≠ [] ∧ lastReads l < 30 then some (addRead l ts) else none
    | none => none := by
  unfold lineStep
  rw [if_pos h9]
  cases unqAll (wordsL L.tail) <;> rfl
theorem own_len {w : World} {base : Nat} {e : TypeId} {size : Nat} {v : Value} {n : Nat} {xs : List Value} (h : w.ownsRow base e size v n xs) : n ≤ maxLen := by
  rcases h.2 with ⟨_, rfl⟩ | ⟨g, cap, cur, _, _, _, h1, h2, _⟩
  · omega
  · omega
set_option maxHeartbeats 4000000 in
set_option maxRecDepth 100000 in
theorem parse1_read (base : Nat) (l : List Coh) (W : World) (L : ByteArray) (v : Value) (hb : W.heap[base]? = some (.cells #[v] 22 (0, 0))) (hL : LstV (base + 7) W v l) (hT : TabH W) (hsz : base + 7 ≤ W.heap.size) (hNG : 9 ≤ base) (hs0 : L.size ≠ 0) (hs : L.size ≤ 16384) (h9 : L.data.toList.headD 0 = 9) :
    Calls Tryz.prog 32 #[.string L, .pointer (some ⟨base, 0, none⟩)] W (Par1 base l L.data.toList W) := by
  obtain ⟨ic, ci, cz0, cz1, cz2⟩ := info_parts reaInfo
  have hst := step_read (l := l) h9
  have hp0 : 0 < L.size := by omega
  have n9 : (((L[0]'hp0).toNat : Nat) : Int) = 9 := by
    rw [byte0 L hp0, h9]; rfl
  have n9b : ((((L[0]'hp0).toNat : Nat) : Int) != 9) = false := by rw [n9]; rfl
  have l1 : (1 : Int) ≤ (L.size : Int) := by omega
  have htl : (L.extract 1 L.size).data.toList = L.data.toList.tail := by
    rw [ext_data, List.take_of_length_le (by rw [List.length_drop, ← Lib.size_eq]; omega), List.drop_one]
  have hts : (L.extract 1 L.size).size ≤ 16384 := by rw [Lib.size_eq, ext_data, List.length_take, List.length_drop, ← Lib.size_eq]; omega
  have htz : L.data.toList.tail.length ≤ 16384 := by rw [List.length_tail, ← Lib.size_eq]; omega
  have p1 := fields_any (L.extract 1 L.size) W (by omega)
  rw [htl] at p1
  have hwl := words_len L.data.toList.tail
  have hwm := words_mem L.data.toList.tail
  generalize wordsL L.data.toList.tail = ws at *
  have N9 := Lib.hid n9
  clear htl h9 n9
  have hcb := cell_of_one hb
  have hfb := free_of_one hb
  have HL := Lib.hid hL
  have HB := Lib.hid hb
  clear hL hb
  have p4 := need_no
  cases hq : unqAll ws with
  | none =>
    rw [hq] at hst
    have HS : Hid (lineStep l L.data.toList = none) := hst
    have HQ := Lib.hid hq
    clear hst hq
    go_enter Tryz.func32, Tryz.ntmps32
    go_wp2_with fail
    refine p1.mono ?_
    rintro e W1 ⟨v1, rfl, hown, b1⟩
    obtain ⟨A1, c1, rfl, hc1, hr1⟩ := hown.row.to (n := ws.length) (by simp)
    have p2 := unquotes_any A1 c1 ws W1 (hT.below b1).t hr1 (by omega) (fun x hx => by have := hwm x hx; omega)
    unfold UnqPost at p2
    rw [HQ.out] at p2
    clear hown hr1 hwm
    go_wp2_with fail
    refine p2.mono ?_
    rintro e W2 ⟨_, h2⟩
    obtain ⟨rfl, b2⟩ := h2 (by simp)
    exact ⟨rfl, Par1.no HB.out HL.out HS.out (bstep b1 b2)⟩
  | some ts =>
    rw [hq] at hst
    have HS : Hid (lineStep l L.data.toList = if tagsOk 1 20 ts = true ∧ l ≠ [] ∧ lastReads l < 30 then some (addRead l ts) else none) := hst
    have hlt := unqAll_len hq
    have HQ := Lib.hid hq
    clear hst hq
    go_enter Tryz.func32, Tryz.ntmps32
    go_wp2_with fail
    refine p1.mono ?_
    rintro e W1 ⟨v1, rfl, hown, b1⟩
    obtain ⟨A1, c1, rfl, hc1, hr1⟩ := hown.row.to (n := ws.length) (by simp)
    have p2 := unquotes_any A1 c1 ws W1 (hT.below b1).t hr1 (by omega) (fun x hx => by have := hwm x hx; omega)
    unfold UnqPost at p2
    rw [HQ.out] at p2
    clear hown hr1 hwm
    go_wp2_with fail
    refine p2.mono ?_
    rintro e W2 ⟨h1, _⟩
    obtain ⟨y, rfl, hown, b2⟩ := h1 ts (by simp)
    clear h1 p2 p1
    obtain ⟨A2, c2, rfl, hc2, hr2⟩ := hown.row.to (n := ts.length) (by simp)
    have bW2 := bstep b1 b2
    have bC : Below W2.heap.size W2 (W2.alloc (.cells #[.slice A2 ts.length c2] 50)) := (Below.refl _ _).alloc (Nat.le_refl _) _
    have bWC := bstep bW2 bC
    have p3 := tags_any A2 c2 ts _ (hT.below bWC).t (hr2.below bC) (by omega)
    have HO := Lib.hid hown
    have HR := Lib.hid hr2
    have HLT := Lib.hid hlt
    clear hown hr2 hlt
    cases hq : tagsOk 1 20 ts with
    | false =>
      have HX : Hid (lineStep l L.data.toList = none) := by rw [Hid, HS.out, hq]; simp
      rw [hq] at p3
      clear hq
      go_wp2_with fail
      refine p3.mono ?_
      rintro e W3 ⟨rfl, b3⟩
      go_wp2_with fail
      refine (p4 _).mono ?_
      unfold wrongP
      rintro e W4 ⟨rfl, rfl⟩
      exact ⟨rfl, Par1.no HB.out HL.out HX.out (bstep bWC b3)⟩
    | true =>
      rw [hq] at p3 HS
      clear hq
      have hL := HL.out
      rcases hL with ⟨rfl, h2⟩ | ⟨l', c, xs, x, vs, rfl, h2, h3, h4, h5, h6, h7⟩
      · have HX : Hid (lineStep [] L.data.toList = none) := by rw [Hid, HS.out]; simp
        obtain ⟨A, cv, rfl, hcv, _⟩ := own_sl h2
        have hcb3 : ∀ W3, Below (W2.alloc (.cells #[.slice A2 ts.length c2] 50)).heap.size (W2.alloc (.cells #[.slice A2 ts.length c2] 50)) W3 → W3.cell? ⟨base, 0, none⟩ = some (.slice A 0 cv) := fun W3 b3 => ((bstep bWC b3).cell (p := ⟨base, 0, none⟩) (show base < W.heap.size by omega)).trans hcb
        clear h2
        have HC3 := Lib.hid hcb3
        clear hcb3
        go_wp2_with fail
        refine p3.mono ?_
        rintro e W3 ⟨rfl, b3⟩
        have hcb4 := HC3.out W3 b3
        go_wp2_with fail
        refine (p4 _).mono ?_
        unfold wrongP
        rintro e W4 ⟨rfl, rfl⟩
        exact ⟨rfl, Par1.no HB.out HL.out HX.out (bstep bWC b3)⟩
      · have HS2 : Hid (lineStep (l' ++ [c]) L.data.toList = if c.reads.length < 30 then some (l' ++ [{ c with reads := c.reads ++ [ts] }]) else none) := by
          rw [Hid, HS.out, lastReads_snoc, addRead_snoc]; simp
        obtain ⟨gv, cv, rfl, hgv1, hgv2⟩ := h4.form (by omega)
        have hx := own_sl h5
        obtain ⟨Ax, cx, rfl, hcx, _⟩ := hx
        have hp2 := need_yes
        have hcl := cohCells_len l' xs h2
        have kx : W.cell? ⟨gv, l'.length * 2 + 1, none⟩ = some (.slice Ax c.reads.length cx) := by
          have := h4.cellAt (l'.length * 2 + 1) (by omega)
          rw [this, List.getElem?_append_right (by omega), hcl, show l'.length * 2 + 1 - 2 * l'.length = 1 by omega]
          rfl
        have hml := own_len h4
        unfold maxLen at hml
        have hml1 : (l'.length : Int) + 1 ≤ 9223372036854775807 := by omega
        have HC3 : Hid (∀ W3, Below (W2.alloc (.cells #[.slice A2 ts.length c2] 50)).heap.size (W2.alloc (.cells #[.slice A2 ts.length c2] 50)) W3 → W3.cell? ⟨base, 0, none⟩ = some (.slice (some ⟨gv, 0, none⟩) (l'.length + 1) cv) ∧ W3.cell? ⟨gv, l'.length * 2 + 1, none⟩ = some (.slice Ax c.reads.length cx)) := fun W3 b3 =>
          ⟨((bstep bWC b3).cell (p := ⟨base, 0, none⟩) (show base < W.heap.size by omega)).trans hcb, ((bstep bWC b3).cell (p := ⟨gv, l'.length * 2 + 1, none⟩) hgv2).trans kx⟩
        have H4 := Lib.hid h4
        have H5 := Lib.hid h5
        have H6 := Lib.hid h6
        have H7 := Lib.hid h7
        have H23 := Lib.hid (And.intro h2 h3)
        clear h2 h3 h4 h5 h6 h7 hcl kx HS hcb hfb
        by_cases h30 : c.reads.length < 30
        · have d30 : (c.reads.length : Int) < 30 := by omega
          have HX : Hid (lineStep (l' ++ [c]) L.data.toList = some (l' ++ [{ c with reads := c.reads ++ [ts] }])) := by rw [Hid, HS2.out, if_pos h30]
          go_wp2_with fail
          refine p3.mono ?_
          rintro e W3 ⟨rfl, b3⟩
          obtain ⟨hcb4, hkx4⟩ := HC3.out W3 b3
          go_wp2_with fail
          refine (hp2 _).mono ?_
          rintro e W4 ⟨rfl, rfl⟩
          go_wp2_with fail
          refine (hp2 _).mono ?_
          rintro e W4 ⟨rfl, rfl⟩
          go_wp2_with fail
          have bW3 := bstep bWC b3
          have bT : Below W.heap.size W ((W3.alloc (.cells #[.slice A2 ts.length c2] 50)).drew) := (bW3.alloc bW3.size _).drew
          have hown5 : ((W3.alloc (.cells #[.slice A2 ts.length c2] 50)).drew).ownsRow (base + 7) 50 1 (.slice Ax c.reads.length cx) c.reads.length vs := own_chg H5.out (Chg.of_new (X := fun _ => False) bT) (fun _ _ e => e)
          have hown4 : Hid (((W3.alloc (.cells #[.slice A2 ts.length c2] 50)).drew).ownsRow (base + 7) 29 2 (.slice (some ⟨gv, 0, none⟩) (l'.length + 1) cv) (l'.length + 1) (cohCells l' xs ++ [S c.form, .slice Ax c.reads.length cx])) := own_chg H4.out (Chg.of_new (X := fun _ => False) bT) (fun _ _ e => e)
          have k4 : W3.cell? ⟨W2.heap.size, 0, none⟩ = some (.slice A2 ts.length c2) := (b3.cell (p := ⟨W2.heap.size, 0, none⟩) (by simp)).trans (at3 W2 #[.slice A2 ts.length c2] 50 0 _ rfl)
          have hnews : ∀ j u, (#[Value.slice A2 ts.length c2]).toList[j]? = some u → ((W3.alloc (.cells #[.slice A2 ts.length c2] 50)).drew).cell? ((⟨W3.heap.size, 0, none⟩ : Addr).add j) = some u := World.news_of_block (heap_alloc_new W3 (.cells #[.slice A2 ts.length c2] 50))
          have h63 : c.reads.length + 1 ≤ maxLen := by unfold maxLen; omega
          have hby : (c.reads.length + 1) * 24 ≤ 140737488355328 := by omega
          have hbase : base + 7 ≤ ((W3.alloc (.cells #[.slice A2 ts.length c2] 50)).drew).heap.size := by have := bT.size; omega
          have hxg : ∀ g, (Value.slice Ax c.reads.length cx).ownBlock = some g → g < W.heap.size := fun g hg => (H5.out.lt g hg).2
          have hs2 : W.heap.size ≤ W2.heap.size := bW2.size
          have hz3 : W2.heap.size < W3.heap.size := by have := b3.size; simp at this; omega
          have bU : Below W3.heap.size W3 ((W3.alloc (.cells #[.slice A2 ts.length c2] 50)).drew) := ((Below.refl _ W3).alloc (Nat.le_refl _) _).drew
          have hgz : gv < W3.heap.size := by omega
          have KK : Hid (∀ w5, ((W3.alloc (.cells #[.slice A2 ts.length c2] 50)).drew).grownBy w5 (Value.slice Ax c.reads.length cx).ownBlock → w5.cell? ⟨gv, l'.length * 2 + 1, none⟩ = some (.slice Ax c.reads.length cx) ∧ w5.cell? ⟨W2.heap.size, 0, none⟩ = some (.slice A2 ts.length c2) ∧ w5.frozen? ⟨gv, l'.length * 2 + 1, none⟩ = false) := by
            intro w5 hg
            have h1 : w5.heap[gv]? = W3.heap[gv]? := (hg.block gv (Nat.lt_of_lt_of_le hgz bU.size) (fun e => H6.out gv e.symm rfl)).trans (bU.block gv hgz)
            refine ⟨(cell_same h1).trans hkx4, ?_, ?_⟩
            · exact (cell_same ((hg.block W2.heap.size (Nat.lt_of_lt_of_le hz3 bU.size) (fun e => by have := hxg _ e.symm; omega)).trans (bU.block _ hz3))).trans k4
            · have h2 := hown4.out.frozenAt (l'.length * 2 + 1)
              exact frz (hg.block gv (Nat.lt_of_lt_of_le hgz bU.size) (fun e => H6.out gv e.symm rfl)) _ h2
          clear hxg
          go_region_law
            ((refine step_append_lies _ (by rfl) (.tmp 59) (.tmp 61) 27 (by rfl) (base + 7) 50 ic _ 1 24 Tryz.underlying27 ci cz0 cz1 cz2 (by rfl) (by decide) _ c.reads.length vs (by rfl) hown5 ⟨W3.heap.size, 0, none⟩ 1 1 [.slice A2 ts.length c2] (by rfl) rfl hnews (by simp [Value.oneCell']) (by decide) h63 hby hbase (W3.heap.size + 1) (by simp) ?_; intro g2 cap w5 hown6 hgr5 hat5 hlt5; obtain ⟨q1, q2, q3⟩ := KK.out w5 hgr5))
          all_goals
            go_end0
            have hyo : ((W3.alloc (.cells #[.slice A2 ts.length c2] 50)).drew).ownsRow W1.heap.size 9 1 (.slice A2 ts.length c2) ts.length (ts.map S) := by
              have h := own_chg HO.out (Chg.of_new (X := fun _ => False) (((bC.trans (b3.mono bC.size)).alloc (by omega) (.cells #[.slice A2 ts.length c2] 50)).drew)) (fun _ _ e => e)
              rwa [List.length_map] at h
            have hyf : Firm (MX (base + 7) (.slice (some ⟨gv, 0, none⟩) (l'.length + 1) cv) (.slice Ax c.reads.length cx)) ((W3.alloc (.cells #[.slice A2 ts.length c2] 50)).drew) (fun w => StrsV w (.slice A2 ts.length c2) ts) :=
              own_firm hyo fun g hg e => by
                have h1 := (hyo.lt g hg).1
                have h2 := b1.size
                rcases e with e | e | e
                · omega
                · simp only [Value.ownBlock, Option.some.injEq] at e; omega
                · have := (H5.out.lt g e).2; omega
            have hres := LstV.read (r := ts) H23.out.1 H23.out.2 hown4.out hown5 (fun e => H6.out gv e rfl) (H7.out.step (Chg.of_new (X := fun _ => False) bT) (fun _ _ e => e.elim) (fun _ _ e => e)) hyf hown6 hgr5 (hat5.imp id fun e => by rw [e]; simp) (show l'.length * 2 + 1 = 2 * l'.length + 1 by omega)
            have c5 := chg_setCell w5 gv (l'.length * 2 + 1) (.slice (some ⟨g2, 0, none⟩) (c.reads.length + 1) cap)
            have cA := (Chg.of_new (X := fun b => base + 7 ≤ b) bT).trans (Chg.of_grown hgr5) fun b _ e => (H5.out.lt b e).1
            have cB := cA.trans c5 fun b _ e => by rw [e]; exact hgv1
            exact ⟨cB.mono fun b _ e => Or.inr e, Or.inl ⟨_, HX.out, rfl, _, (cB.block base (by omega) (by omega)).trans HB.out, hres⟩⟩
        · have HX : Hid (lineStep (l' ++ [c]) L.data.toList = none) := by rw [Hid, HS2.out, if_neg h30]
          have d30 : decide ((c.reads.length : Int) < 30) = false := decide_eq_false (by omega)
          go_wp2_with fail
          refine p3.mono ?_
          rintro e W3 ⟨rfl, b3⟩
          obtain ⟨hcb4, hkx4⟩ := HC3.out W3 b3
          go_wp2_with fail
          refine (hp2 _).mono ?_
          rintro e W4 ⟨rfl, rfl⟩
          go_wp2_with fail
          refine (p4 _).mono ?_
          unfold wrongP
          rintro e W4 ⟨rfl, rfl⟩
          exact ⟨rfl, Par1.no HB.out HL.out HX.out (bstep bWC b3)⟩

/- Walks of layer 33: Parse. -/
open Go.RowKit
set_option linter.unusedVariables false

/-- what Parse returns -/
def CohPost (w : World) (r : List Coh × Nat × Nat) (e : Ending) (w' : World) : Prop :=
  ∃ v, e = .returned (.tuple #[v, .int .i64 (r.2.1 : Int), .int .i64 (r.2.2 : Int)]) ∧ CohsV w' v r.1 ∧ Below w.heap.size w w'
theorem CohsV.nil (w : World) : CohsV w (.slice none 0 0) [] := ⟨[], Sl.nil w, trivial⟩
theorem readAll_err {α : Type} {step : List α → Bs → Option (List α)} : ∀ (ls : List (Nat × Bs)) (st l : List α) (p c : Nat), readAll step st ls = (l, p, c) → (c = 0 ∧ p = 0) ∨ (c = 3 ∧ l = [])
  | [], st, l, p, c, h => by
    unfold readAll at h
    simp only [Prod.mk.injEq] at h
    exact Or.inl ⟨h.2.2.symm, h.2.1.symm⟩
  | (q, x) :: r, st, l, p, c, h => by
    have h' : (match step st x with | some y => readAll step y r | none => ([], q, 3)) = (l, p, c) := h
    cases hx : step st x with
    | none =>
      rw [hx] at h'
      simp only [Prod.mk.injEq] at h'
      exact Or.inr ⟨h'.2.2.symm, h'.1.symm⟩
    | some y => rw [hx] at h'; exact readAll_err r y l p c h'
set_option maxHeartbeats 2000000 in
set_option maxRecDepth 100000 in
theorem parse_any (s : ByteArray) (w : World) (hT : TabH w) : Calls Tryz.prog 10 #[.string s] w (CohPost w (parseL s.data.toList)) := by
  have hmf : ∀ (fn : Fn) (first cap : Array Value) (w : World), (Instr.makeFunc fn first cap).run Tryz.prog w = .ok (.func fn first cap) w := fun _ _ _ _ => rfl
  have b0 : Below w.heap.size w (w.alloc (.cells #[.slice none 0 0] 22)) := (Below.refl _ _).alloc (Nat.le_refl _) _
  have hblk := heap_alloc_new w (.cells #[.slice none 0 0] 22)
  by_cases hs : 16384 < s.size
  · have HP : Hid (parseL s.data.toList = ([], 0, 2)) := by unfold Hid parseL readText; rw [if_pos (by rw [← Lib.size_eq]; exact hs)]
    have p1 := read_long s 32 #[.pointer (some ⟨w.heap.size, 0, none⟩)] (w.alloc (.cells #[.slice none 0 0] 22)) hs
    go_enter Tryz.func10, Tryz.ntmps10
    go_wp2_with fail
    refine p1.mono ?_
    rintro e W ⟨rfl, b1⟩
    have hb1 := (b1.block w.heap.size (by simp)).trans hblk
    have k1 := cell_of_one hb1
    have k2 := free_of_one hb1
    go_wp2_with fail
    have k3 := cell_of_one (one_setCell (u := .slice none 0 0) hb1)
    refine bodyPost_ret (v := .tuple #[.slice none 0 0, .int .i64 0, .int .i64 2]) (by simp [results, Tryz.results10, k3, go_sem]) rfl ?_
    unfold CohPost
    rw [HP.out]
    exact ⟨_, rfl, CohsV.nil _, (bstep b0 b1).setCell (p := ⟨w.heap.size, 0, none⟩) (Nat.le_refl _) _⟩
  · have HP : Hid (parseL s.data.toList = readAll lineStep [] (linesL s.data.toList)) := by unfold Hid parseL readText; rw [if_neg (by rw [← Lib.size_eq]; exact hs)]
    have p1 := read_any lineStep [] (fun l W => ∃ v, W.heap[w.heap.size]? = some (.cells #[v] 22 (0, 0)) ∧ LstV (w.heap.size + 7) W v l) w.heap.size (w.heap.size + 1) 32 #[.pointer (some ⟨w.heap.size, 0, none⟩)]
      (w.alloc (.cells #[.slice none 0 0] 22)) s (by omega) (by omega) hT.lt (by simp) (hT.below b0)
      ⟨_, hblk, Or.inl ⟨rfl, World.ownsRow_nil _ _ _ _⟩⟩
      (fun l W W' h hc => by
        obtain ⟨v, h1, h2⟩ := h
        exact ⟨v, (hc.block _ (lt_of_block h1) (by omega)).trans h1, h2.chg hc fun b _ e => by omega⟩)
      (fun l W L h hTW hz h0 h1 => by
        obtain ⟨v, h2, h3⟩ := h
        have key : Calls Tryz.prog 32 #[.string L, .pointer (some ⟨w.heap.size, 0, none⟩)] W (Par1 w.heap.size l L.data.toList W) := by
          by_cases h9 : L.data.toList.headD 0 = 9
          · exact parse1_read _ l W L v h2 h3 hTW (by omega) hT.lt h0 h1 h9
          · exact parse1_form _ l W L v h2 h3 hTW (by omega) hT.lt h0 h1 h9
        refine key.mono fun e W' h => ⟨h.1.mono fun b _ e => by omega, h.2⟩)
      (fun args w => enters_of Tryz.func32 (by kernel_rfl) rfl args w)
    clear hs
    go_enter Tryz.func10, Tryz.ntmps10
    go_wp2_with fail
    refine p1.mono ?_
    rintro e W ⟨l, p, c, hr, rfl, hl, ⟨l2, v2, hb2, hl2⟩, b1⟩
    have k1 := cell_of_one hb2
    have k2 := free_of_one hb2
    have bW := b0.trans b1
    have HR := Lib.hid hr
    have HL := Lib.hid hl
    rcases readAll_err _ _ _ _ _ hr with ⟨rfl, rfl⟩ | ⟨rfl, rfl⟩
    · obtain ⟨v3, hb3, hl3⟩ := hl rfl
      obtain rfl : v2 = v3 := by rw [hb2] at hb3; simpa using hb3
      have k3 := cell_of_one (one_setCell (u := v2) hb2)
      have H3 := Lib.hid hl3
      obtain ⟨cs3, hcs3⟩ := hl3.len
      obtain ⟨A, cv, rfl, _, _⟩ := own_sl hcs3
      clear hr hl hl3 hb3 hl2 hcs3
      go_wp2_with fail
      refine bodyPost_ret (v := .tuple #[.slice A l.length cv, .int .i64 0, .int .i64 0]) (by simp [results, Tryz.results10, k3, go_sem]) rfl ?_
      unfold CohPost
      rw [HP.out, HR.out]
      exact ⟨_, rfl, (H3.out.chg (chg_setCell W w.heap.size 0 _) fun b _ e => by omega).cohs, bW.setCell (p := ⟨w.heap.size, 0, none⟩) (Nat.le_refl _) _⟩
    · have k3 := cell_of_one (one_setCell (u := .slice none 0 0) hb2)
      clear hr hl hl2
      go_wp2_with fail
      refine bodyPost_ret (v := .tuple #[.slice none 0 0, .int .i64 (p : Int), .int .i64 3]) (by simp [results, Tryz.results10, k3, go_sem]) rfl ?_
      unfold CohPost
      rw [HP.out, HR.out]
      exact ⟨_, rfl, CohsV.nil _, bW.setCell (p := ⟨w.heap.size, 0, none⟩) (Nat.le_refl _) _⟩

/- Walks of layer 33: Valid and Text. -/
open Go.RowKit
set_option linter.unusedVariables false

/-- small enough to be walked -/
def Sized (l : List Coh) : Prop := l.length ≤ 1000000 ∧ ∀ c ∈ l, c.reads.length ≤ 1000000 ∧ ∀ r ∈ c.reads, r.length ≤ 1000000
/-- one cohort of a slice of cohorts -/
theorem CohsV.at {w : World} {A : Option Addr} {n c : Nat} {l : List Coh} (h : CohsV w (.slice A n c) l) {k : Nat} (hk : k < l.length) : ∃ b o x, A = some ⟨b, o, none⟩ ∧ b < w.heap.size ∧ w.cell? ⟨b, o + k * 2, none⟩ = some (S l[k].form) ∧ w.cell? ⟨b, o + k * 2 + 1, none⟩ = some x ∧ ReadsV w x l[k].reads := by
  obtain ⟨xs, ⟨A', c', e, hc, hr⟩, ha⟩ := h
  have hl := ha.length
  cases e
  have hne : cohCells l xs ≠ [] := by
    intro e
    have := cohCells_len l xs hl
    rw [e] at this
    simp at this
    omega
  obtain ⟨b, o, rfl, hlt, hcell⟩ := hr hne
  obtain ⟨g1, g2⟩ := cohCells_get l xs k hk (by omega)
  refine ⟨b, o, xs[k]'(by omega), rfl, hlt, ?_, ?_, ha.get k (by omega) hk⟩
  · rw [show k * 2 = 2 * k by omega]; exact hcell _ _ g1
  · rw [show o + k * 2 + 1 = o + (2 * k + 1) by omega]; exact hcell _ _ g2
theorem ReadsV.at {w : World} {A : Option Addr} {n c : Nat} {rs : List (List Bs)} (h : ReadsV w (.slice A n c) rs) {k : Nat} (hk : k < rs.length) : ∃ b o x, A = some ⟨b, o, none⟩ ∧ b < w.heap.size ∧ w.cell? ⟨b, o + k, none⟩ = some x ∧ StrsV w x rs[k] := by
  obtain ⟨vs, ⟨A', c', e, hc, hr⟩, ha⟩ := h
  have hl := ha.length
  cases e
  have hne : vs ≠ [] := by rintro rfl; simp at hl; omega
  obtain ⟨b, o, rfl, hlt, hcell⟩ := hr hne
  exact ⟨b, o, vs[k]'(by omega), rfl, hlt, hcell _ _ (List.getElem?_eq_getElem (by omega)), ha.get k (by omega) hk⟩
theorem ReadsV.form {w : World} {x : Value} {rs : List (List Bs)} (h : ReadsV w x rs) : ∃ A c, x = .slice A rs.length c := by
  obtain ⟨vs, ⟨A', c', e, hc, hr⟩, ha⟩ := h
  exact ⟨_, _, e⟩
theorem cohOk_form {c : Coh} (h : tagOk c.form = false) : cohOk c = false := by unfold cohOk; rw [h]; rfl
theorem cohOk_many {c : Coh} (h : 30 < c.reads.length) : cohOk c = false := by unfold cohOk; rw [decide_eq_false (by omega : ¬ c.reads.length ≤ 30)]; simp
theorem all_take {α : Type} {p : α → Bool} {l : List α} {k : Nat} (hk : k < l.length) (h : ∀ x ∈ l.take k, p x = true) (hp : p l[k] = true) : ∀ x ∈ l.take (k + 1), p x = true := by
  intro x hx
  rw [List.take_succ_eq_append_getElem hk] at hx
  rcases List.mem_append.1 hx with hx | hx
  · exact h x hx
  · simp only [List.mem_singleton] at hx; subst hx; exact hp
theorem all_no {α : Type} {p : α → Bool} {l : List α} {k : Nat} (hk : k < l.length) (hp : p l[k] = false) : l.all p = false := by
  cases h : l.all p with
  | false => rfl
  | true => rw [List.all_eq_true] at h; rw [h _ (List.getElem_mem hk)] at hp; cases hp
set_option maxHeartbeats 4000000 in
set_option maxRecDepth 100000 in
theorem valid_any (A : Option Addr) (c : Nat) (l : List Coh) (w : World) (hT : Tabs w) (hV : CohsV w (.slice A l.length c) l) (hl : Sized l) :
    Calls Tryz.prog 19 #[.slice A l.length c] w fun e w' => e = .returned (.bool (cohsOk l)) ∧ Below w.heap.size w w' := by
  have HV := Lib.hid hV
  clear hV
  obtain ⟨hl1, hl2⟩ := hl
  by_cases h200 : 200 < l.length
  · have HX : Hid (cohsOk l = false) := by unfold Hid cohsOk; rw [decide_eq_false (by omega : ¬ l.length ≤ 200)]; rfl
    have d1 : (200 : Int) < (l.length : Int) := by omega
    go_enter Tryz.func19, Tryz.ntmps19
    go_wp2_with fail
    go_returns
    exact ⟨by rw [HX.out]; (try rfl), Below.refl _ _⟩
  · have HK : Hid (cohsOk l = l.all cohOk) := by unfold Hid cohsOk; rw [decide_eq_true (by omega : l.length ≤ 200)]; rfl
    have d1 : (l.length : Int) ≤ 200 := by omega
    go_enter Tryz.func19, Tryz.ntmps19
    go_wp2_with fail
    go_loopw [12] (fun i wr => ∃ (k : Nat), i = .int .i64 k ∧ k ≤ l.length ∧ Below w.heap.size w wr ∧ Hid (∀ x ∈ l.take k, cohOk x = true)) (fun i _ => l.length - (intOf i).toNat)
    case atStart => exact ⟨0, rfl, by omega, Below.refl _ _, by simp [Hid]⟩
    case round =>
      obtain ⟨k, rfl, hk, hB, HN⟩ := hrel
      by_cases hlt : k < l.length
      · obtain ⟨b, o, x, rfl, hbl, hc1, hc2, hr⟩ := HV.out.at hlt
        obtain ⟨hz1, hz2⟩ := hl2 l[k] (List.getElem_mem _)
        have HF : Hid (cohOk l[k] = false → cohsOk l = false) := fun h => by rw [HK.out]; exact all_no hlt h
        have HT : Hid (cohOk l[k] = true → ∀ x ∈ l.take (k + 1), cohOk x = true) := all_take hlt HN.out
        generalize l[k] = cc at *
        obtain ⟨F, hF⟩ : ∃ F : ByteArray, (⟨cc.form.toArray⟩ : ByteArray) = F := ⟨_, rfl⟩
        have hFd : cc.form = F.data.toList := by rw [← hF]
        obtain ⟨Ax, cx, rfl⟩ := hr.form
        have k1 : wr.cell? ⟨b, o + k * 2, none⟩ = some (.string F) := (hB.cell (p := ⟨b, o + k * 2, none⟩) hbl).trans (by rw [hc1, S, hF])
        have k2 : wr.cell? ⟨b, o + k * 2 + 1, none⟩ = some (.slice Ax cc.reads.length cx) := (hB.cell (p := ⟨b, o + k * 2 + 1, none⟩) hbl).trans hc2
        have k0 : (0 : Int) ≤ (k : Int) := by omega
        have kl : (k : Int) < (l.length : Int) := by omega
        have bC : Below wr.heap.size wr (wr.alloc (.cells #[.string F, .slice Ax cc.reads.length cx] 29)) := (Below.refl _ _).alloc (Nat.le_refl _) _
        have bD : Below wr.heap.size wr ((wr.alloc (.cells #[.string F, .slice Ax cc.reads.length cx] 29)).alloc (.cells #[.string F] 9)) := bC.alloc (by simp) _
        have hrow := row_lit (wr.alloc (.cells #[.string F, .slice Ax cc.reads.length cx] 29)) [.string F] 9
        rw [World.size_alloc] at hrow
        have p2 := named_any (some ⟨wr.heap.size + 1, 0, none⟩) 1 [F.data.toList] _ (hT.below (bstep hB bD)) hrow (by simp)
        rw [show [F.data.toList].all tagOk = tagOk cc.form by rw [hFd]; simp] at p2
        have HR := Lib.hid (hr.below (bstep hB (Below.refl _ _)))
        have HFd := Lib.hid hFd
        clear hF hFd hc1 hc2 hr hrow
        cases hq : tagOk cc.form with
        | false =>
          have HX := Lib.hid (HF.out (cohOk_form hq))
          rw [hq] at p2
          clear hq
          go_wp2_with fail
          refine p2.mono ?_
          rintro e W3 ⟨rfl, b3⟩
          go_wp2_with fail
          go_returns
          exact ⟨by rw [HX.out]; (try rfl), bstep (bstep hB bD) b3⟩
        | true =>
          have HQ := Lib.hid hq
          rw [hq] at p2
          clear hq
          have bE : ∀ W3, Below ((wr.alloc (.cells #[.string F, .slice Ax cc.reads.length cx] 29)).alloc (.cells #[.string F] 9)).heap.size ((wr.alloc (.cells #[.string F, .slice Ax cc.reads.length cx] 29)).alloc (.cells #[.string F] 9)) W3 → W3.cell? ⟨wr.heap.size, 1, none⟩ = some (.slice Ax cc.reads.length cx) := fun W3 b3 =>
            ((bstep ((Below.refl _ (wr.alloc (.cells #[.string F, .slice Ax cc.reads.length cx] 29))).alloc (Nat.le_refl _) (.cells #[.string F] 9)) b3).cell (p := ⟨wr.heap.size, 1, none⟩) (by simp)).trans (at3 wr #[.string F, .slice Ax cc.reads.length cx] 29 1 _ rfl)
          have HE := Lib.hid bE
          clear bE
          by_cases h30 : 30 < cc.reads.length
          · have HX := Lib.hid (HF.out (cohOk_many h30))
            have d30 : decide ((30 : Int) < (cc.reads.length : Int)) = true := decide_eq_true (by omega)
            go_wp2_with fail
            refine p2.mono ?_
            rintro e W3 ⟨rfl, b3⟩
            have k3 := HE.out W3 b3
            go_wp2_with fail
            go_returns
            exact ⟨by rw [HX.out]; (try rfl), bstep (bstep hB bD) b3⟩
          · have d30 : decide ((30 : Int) < (cc.reads.length : Int)) = false := decide_eq_false (by omega)
            have HO : Hid (cohOk cc = cc.reads.all (tagsOk 1 20)) := by unfold Hid cohOk; rw [HQ.out, decide_eq_true (by omega : cc.reads.length ≤ 30)]; rfl
            go_wp2_with fail
            refine p2.mono ?_
            rintro e W3 ⟨rfl, b3⟩
            have k3 := HE.out W3 b3
            have bW3 := bstep (bstep hB bD) b3
            have HR3 := Lib.hid (HR.out.below (bstep bD b3))
            go_wp2_with fail
            obtain ⟨wo, rfl⟩ : ∃ W, W = wr := ⟨_, rfl⟩
            go_loopw [30] (fun j w2 => ∃ (m : Nat), j = .int .i64 m ∧ m ≤ cc.reads.length ∧ Below W3.heap.size W3 w2 ∧ Hid (∀ x ∈ cc.reads.take m, tagsOk 1 20 x = true)) (fun j _ => cc.reads.length - (intOf j).toNat)
            case atStart => exact ⟨0, rfl, by omega, Below.refl _ _, by simp [Hid]⟩
            case round =>
              obtain ⟨m, rfl, hm, hB2, HM⟩ := hrel
              by_cases hlt2 : m < cc.reads.length
              · obtain ⟨b2, o2, y, rfl, hbl2, hc3, hy⟩ := HR3.out.at hlt2
                have hz3 := hz2 cc.reads[m] (List.getElem_mem _)
                have HF2 : Hid (tagsOk 1 20 cc.reads[m] = false → cohsOk l = false) := fun h => HF.out (by rw [HO.out]; exact all_no hlt2 h)
                have HT2 : Hid (tagsOk 1 20 cc.reads[m] = true → ∀ x ∈ cc.reads.take (m + 1), tagsOk 1 20 x = true) := all_take hlt2 HM.out
                generalize cc.reads[m] = rr at *
                obtain ⟨Ay, cy, rfl, hcy, hry⟩ := hy
                have k4 : wr.cell? ⟨b2, o2 + m, none⟩ = some (.slice Ay rr.length cy) := (hB2.cell (p := ⟨b2, o2 + m, none⟩) hbl2).trans hc3
                have m0 : (0 : Int) ≤ (m : Int) := by omega
                have ml : (m : Int) < (cc.reads.length : Int) := by omega
                have bF : Below wr.heap.size wr (wr.alloc (.cells #[.slice Ay rr.length cy] 50)) := (Below.refl _ _).alloc (Nat.le_refl _) _
                have p5 := tags_any Ay cy rr _ (hT.below (bstep (bstep bW3 hB2) bF)) ((hry.below hB2).below bF) (by omega)
                clear hc3 hry
                cases hq : tagsOk 1 20 rr with
                | false =>
                  have HX := Lib.hid (HF2.out hq)
                  rw [hq] at p5
                  clear hq
                  go_wp2_with fail
                  refine p5.mono ?_
                  rintro e W5 ⟨rfl, b5⟩
                  go_wp2_with fail
                  go_returns
                  exact ⟨by rw [HX.out]; (try rfl), bstep (bstep (bstep bW3 hB2) bF) b5⟩
                | true =>
                  have HX := Lib.hid (HT2.out hq)
                  rw [hq] at p5
                  clear hq
                  go_wp2_with fail
                  refine p5.mono ?_
                  rintro e W5 ⟨rfl, b5⟩
                  go_wp2_with fail
                  go_roundw
                  case rel => exact ⟨m + 1, by go_num, by omega, bstep (bstep hB2 bF) b5, HX.out⟩
                  case measure => simp [intOf]; omega
              · obtain rfl : m = cc.reads.length := by omega
                have HX := Lib.hid (HT.out (by rw [HO.out, List.all_eq_true]; have := HM.out; rwa [List.take_length] at this))
                go_wp2_with fail
                go_roundw
                case rel => exact ⟨k + 1, by go_num, by omega, bstep bW3 hB2, HX.out⟩
                case measure => simp [intOf]; omega
      · obtain rfl : k = l.length := by omega
        have HX : Hid (cohsOk l = true) := by rw [Hid, HK.out, List.all_eq_true]; have := HN.out; rwa [List.take_length] at this
        go_wp2_with fail
        go_returns
        exact ⟨by rw [HX.out]; (try rfl), hB⟩

/- Walks of layer 33: Text. -/
open Go.RowKit
set_option linter.unusedVariables false

/-- WriteString, with what it leaves alone -/
theorem WriteStr_any (B b : Nat) (l : Bs) (s : ByteArray) (w : World) (h : Bld B b l w) (hlen : l.length + s.size ≤ 140737488355328) (hBw : B ≤ w.heap.size) :
    Calls Tryz.prog 42 #[.pointer (some ⟨b, 0, none⟩), .string s] w fun e w' => e = .returned (.tuple #[.int .i64 s.size, .nilIface]) ∧ Bld B b (l ++ s.data.toList) w' ∧ Below B w w' ∧ Lib.OthersKept 5 (some b) w w' := by
  refine (Any.Builder_WriteString_k { Tryz.lays156 with } Tryz.Builder_Extra_156 B b (Lib.byteCells l) s w h (by rw [Lib.byteCells_length]; exact hlen) hBw).mono ?_
  rintro e w' ⟨rfl, h1, h2, h3⟩
  exact ⟨rfl, by unfold Bld; rw [Lib.byteCells_append, ← Lib.strCells_eq]; exact Or.inr h1, h2, h3⟩
theorem kept_block {b k : Nat} {w w' : World} {cs : Array Value} {t : TypeId} {fr : Nat × Nat} (h : Lib.OthersKept 5 (some b) w w') (hk : w.heap[k]? = some (.cells cs t fr)) (hb : k ≠ b) (ht : t ≠ 5) : w'.heap[k]? = some (.cells cs t fr) :=
  h k _ hk (fun e => hb (by simpa using e)) (fun c fz e => ht (by simp only [Obj.cells.injEq] at e; exact e.2.1))
/-- the text of readings -/
def readsT (rs : List (List Bs)) : Bs := rs.flatMap fun r => 9 :: (quotedL r ++ [10])
theorem textC_eq (c : Coh) : textC c = quoteL c.form ++ 10 :: readsT c.reads := rfl
theorem readsT_succ {rs : List (List Bs)} {m : Nat} (h : m < rs.length) : readsT (rs.take (m + 1)) = readsT (rs.take m) ++ 9 :: (quotedL rs[m] ++ [10]) := by
  unfold readsT
  rw [List.take_succ_eq_append_getElem h, List.flatMap_append]; simp
theorem readsT_len : ∀ (rs : List (List Bs)), (∀ r ∈ rs, tagsOk 1 20 r = true) → (readsT rs).length ≤ rs.length * 5002
  | [], _ => by simp [readsT]
  | r :: rs, h => by
    have h1 := quoted_len (few_of_tags (h r List.mem_cons_self))
    have ih := readsT_len rs (fun x hx => h x (List.mem_cons_of_mem _ hx))
    unfold readsT at ih ⊢
    simp only [List.flatMap_cons, List.length_append, List.length_cons, List.length_nil]
    omega
theorem form_len {c : Coh} (h : cohOk c = true) : c.form.length ≤ 40 := by
  have := (cohOk_parts h).1
  unfold tagOk at this
  simp only [Bool.and_eq_true, decide_eq_true_eq] at this
  exact this.2
theorem textC_len {c : Coh} (h : cohOk c = true) : (textC c).length ≤ 200000 := by
  obtain ⟨h1, h2, h3⟩ := cohOk_parts h
  have h4 := form_len h
  have h5 := quote_len c.form
  have h6 := readsT_len c.reads h3
  rw [textC_eq, List.length_append, List.length_cons]
  omega
theorem textL_len : ∀ (l : List Coh), (∀ c ∈ l, cohOk c = true) → (textL l).length ≤ l.length * 200000
  | [], _ => by simp [textL]
  | c :: l, h => by
    have h1 := textC_len (h c List.mem_cons_self)
    have ih := textL_len l (fun x hx => h x (List.mem_cons_of_mem _ hx))
    unfold textL at ih ⊢
    rw [List.flatMap_cons, List.length_append, List.length_cons]
    omega
theorem textL_succ {l : List Coh} {k : Nat} (h : k < l.length) : textL (l.take (k + 1)) = textL (l.take k) ++ textC l[k] := by
  rw [List.take_succ_eq_append_getElem h, textL_snoc]
theorem str_eta (s : ByteArray) (l : Bs) (h : s.data.toList = l) : s = ⟨l.toArray⟩ := by subst h; rfl
set_option maxHeartbeats 4000000 in
set_option maxRecDepth 100000 in
theorem text_any (A : Option Addr) (c : Nat) (l : List Coh) (w : World) (hT : Tabs w) (hV : CohsV w (.slice A l.length c) l) (hl : Sized l) :
    Calls Tryz.prog 17 #[.slice A l.length c] w fun e w' => e = .returned (.tuple #[.string ⟨(cohsText l).1.toArray⟩, .int .i64 ((cohsText l).2 : Int)]) ∧ Below w.heap.size w w' := by
  have p1 := valid_any A c l w hT hV hl
  have HV := Lib.hid hV
  clear hV
  cases hq : cohsOk l with
  | false =>
    have HX : Hid (cohsText l = ([], 1)) := by unfold Hid cohsText; rw [hq]; rfl
    rw [hq] at p1
    clear hq
    go_enter Tryz.func17, Tryz.ntmps17
    go_wp2_with fail
    refine p1.mono ?_
    rintro e w1 ⟨rfl, b1⟩
    go_wp2_with fail
    go_returns
    exact ⟨by rw [HX.out]; (try rfl), b1⟩
  | true =>
    have HX : Hid (cohsText l = limL (textL l)) := by unfold Hid cohsText limL; rw [if_pos hq]
    obtain ⟨hl1, hl2⟩ := cohsOk_parts hq
    have HOK := Lib.hid hl2
    rw [hq] at p1
    clear hq hl2
    go_enter Tryz.func17, Tryz.ntmps17
    go_wp2_with fail
    refine p1.mono ?_
    rintro e w1 ⟨rfl, b1⟩
    have hN := hT.below b1
    have B0 : Bld w1.heap.size w1.heap.size [] (w1.alloc (.cells #[.pointer none, .slice none 0 0] 69)) := Bld.new w1
    have bb : Below w1.heap.size w1 (w1.alloc (.cells #[.pointer none, .slice none 0 0] 69)) := (Below.refl _ _).alloc (Nat.le_refl _) _
    have HV1 := Lib.hid (HV.out.below b1)
    go_wp2_with fail
    go_loopw [14] (fun i wr => ∃ (k : Nat), i = .int .i64 k ∧ k ≤ l.length ∧ Bld w1.heap.size w1.heap.size (textL (l.take k)) wr ∧ Below w1.heap.size w1 wr ∧ w1.heap.size < wr.heap.size) (fun i _ => l.length - (intOf i).toNat)
    case atStart => exact ⟨0, rfl, by omega, by simpa [textL] using B0, bb, by simp⟩
    case round =>
      obtain ⟨k, rfl, hk, hbl, hB, hlt0⟩ := hrel
      by_cases hlt : k < l.length
      · obtain ⟨b, o, x, rfl, hbl0, hc1, hc2, hr⟩ := HV1.out.at hlt
        have hok := HOK.out l[k] (List.getElem_mem _)
        obtain ⟨_, hz1, hz2⟩ := cohOk_parts hok
        have hfl := form_len hok
        have HS := Lib.hid (textL_succ hlt)
        have HZ := Lib.hid (textL_len (l.take k) (fun c hc => HOK.out c (List.mem_of_mem_take hc)))
        have HC := Lib.hid (textC_eq l[k])
        generalize l[k] = cc at *
        obtain ⟨F, hF⟩ : ∃ F : ByteArray, (⟨cc.form.toArray⟩ : ByteArray) = F := ⟨_, rfl⟩
        have hFd : cc.form = F.data.toList := by rw [← hF]
        obtain ⟨Ax, cx, rfl⟩ := hr.form
        have k1 : wr.cell? ⟨b, o + k * 2, none⟩ = some (.string F) := (hB.cell (p := ⟨b, o + k * 2, none⟩) hbl0).trans (by rw [hc1, S, hF])
        have k2 : wr.cell? ⟨b, o + k * 2 + 1, none⟩ = some (.slice Ax cc.reads.length cx) := (hB.cell (p := ⟨b, o + k * 2 + 1, none⟩) hbl0).trans hc2
        have k0 : (0 : Int) ≤ (k : Int) := by omega
        have kl : (k : Int) < (l.length : Int) := by omega
        have bC : Below wr.heap.size wr (wr.alloc (.cells #[.string F, .slice Ax cc.reads.length cx] 29)) := (Below.refl _ _).alloc (Nat.le_refl _) _
        have hFs : F.size ≤ 40 := by rw [Lib.size_eq, ← hFd]; exact hfl
        have p2 := quote_any F _ (hT.below (bstep b1 (bstep hB bC))) (by omega)
        obtain ⟨Q, hQ⟩ : ∃ Q : ByteArray, (⟨(quoteL F.data.toList).toArray⟩ : ByteArray) = Q := ⟨_, rfl⟩
        rw [hQ] at p2
        have hQd : Q.data.toList = quoteL cc.form := by rw [hFd, ← hQ]
        have hQs : Q.size ≤ 300 := by have := quote_len cc.form; rw [Lib.size_eq, hQd]; omega
        have hlen := HZ.out
        rw [List.length_take] at hlen
        have hmin : min k l.length ≤ 200 := by omega
        have hlen2 : (textL (l.take k)).length ≤ 40000000 := by
          have := Nat.mul_le_mul_right 200000 hmin
          omega
        have HC1 := Lib.hid hc1
        have HR1 := Lib.hid hr
        have HQd := Lib.hid hQd
        have HFd := Lib.hid hFd
        have hzq : (Q ++ (⟨#[10]⟩ : ByteArray)).size = Q.size + 1 := by rw [size_cat]; rfl
        clear hF hFd hc1 hc2 hr hQ hQd hlen hmin hok hfl
        go_wp2_with fail
        refine p2.mono ?_
        rintro e w3 ⟨rfl, b3⟩
        have hbl3 := (hbl.below bC).below b3
        have hB3 := hB.trans ((bC.mono hB.size).trans (b3.mono (by have := hB.size; have := bC.size; omega)))
        have p3 := WriteStr_any w1.heap.size w1.heap.size (textL (l.take k)) (Q ++ ⟨#[10]⟩) w3 hbl3 (by rw [hzq]; omega) hB3.size
        have HBC := Lib.hid ((b3.block wr.heap.size (by simp)).trans (heap_alloc_new wr (.cells #[.string F, .slice Ax cc.reads.length cx] 29)))
        clear hzq
        go_wp2_with fail
        refine p3.mono ?_
        rintro e w4 ⟨rfl, hbl4, b4, o4⟩
        have hB4 := hB3.trans b4
        have hblk := kept_block o4 HBC.out (by omega) (by decide)
        have k5 : w4.cell? ⟨wr.heap.size, 1, none⟩ = some (.slice Ax cc.reads.length cx) := by rw [cell_of_row w4 wr.heap.size 1 _ _ (0, 0) hblk]; rfl
        have hz4 : wr.heap.size < w4.heap.size := lt_of_block hblk
        clear hblk
        go_wp2_with fail
        obtain ⟨wo, rfl⟩ : ∃ W, W = wr := ⟨_, rfl⟩
        go_loopw [26] (fun j w2 => ∃ (m : Nat), j = .int .i64 m ∧ m ≤ cc.reads.length ∧ Bld w1.heap.size w1.heap.size ((textL (l.take k) ++ (Q ++ (⟨#[10]⟩ : ByteArray)).data.toList) ++ readsT (cc.reads.take m)) w2 ∧ Below w1.heap.size w4 w2) (fun j _ => cc.reads.length - (intOf j).toNat)
        case atStart => exact ⟨0, rfl, by omega, by simpa [readsT] using hbl4, Below.refl _ _⟩
        case round =>
          obtain ⟨m, rfl, hm, hbl5, hB5⟩ := hrel
          have hBx := hB4.trans hB5
          by_cases hlt2 : m < cc.reads.length
          · obtain ⟨b2, o2, y, rfl, hbl2, hc3, hy⟩ := HR1.out.at hlt2
            have hz3 := hz2 cc.reads[m] (List.getElem_mem _)
            have HRS := Lib.hid (readsT_succ hlt2)
            have hrl := readsT_len (cc.reads.take m) (fun r hr => hz2 r (List.mem_of_mem_take hr))
            have HFW := few_of_tags hz3
            generalize cc.reads[m] = rr at *
            obtain ⟨Ay, cy, rfl, hcy, hry⟩ := hy
            have k4 : wr.cell? ⟨b2, o2 + m, none⟩ = some (.slice Ay rr.length cy) := (hBx.cell (p := ⟨b2, o2 + m, none⟩) hbl2).trans hc3
            have m0 : (0 : Int) ≤ (m : Int) := by omega
            have ml : (m : Int) < (cc.reads.length : Int) := by omega
            have bF : Below wr.heap.size wr (wr.alloc (.cells #[.slice Ay rr.length cy] 50)) := (Below.refl _ _).alloc (Nat.le_refl _) _
            have p5 := quotes_any Ay cy rr _ (hT.below (bstep b1 (bstep hBx bF))) ((hry.below hBx).below bF) HFW
            obtain ⟨R, hR⟩ : ∃ R : ByteArray, (⟨(quotedL rr).toArray⟩ : ByteArray) = R := ⟨_, rfl⟩
            rw [hR] at p5
            have hRd : R.data.toList = quotedL rr := by rw [← hR]
            have hRs : R.size ≤ 5000 := by rw [Lib.size_eq, hRd]; exact quoted_len HFW
            have hzr : ((⟨#[9]⟩ : ByteArray) ++ R ++ (⟨#[10]⟩ : ByteArray)).size = R.size + 2 := by rw [size_cat, size_cat]; show 1 + R.size + 1 = _; omega
            have s9 : (⟨#[9]⟩ : ByteArray).size = 1 := rfl
            have s10 : (⟨#[10]⟩ : ByteArray).size = 1 := rfl
            have hza : ((⟨#[9]⟩ : ByteArray) ++ R).size = R.size + 1 := by rw [size_cat]; show 1 + R.size = _; omega
            rw [List.length_take] at hrl
            have hlen3 : ((textL (l.take k) ++ (Q ++ (⟨#[10]⟩ : ByteArray)).data.toList) ++ readsT (cc.reads.take m)).length ≤ 50000000 := by
              rw [List.length_append, List.length_append, ← Lib.size_eq, size_cat]
              have : min m cc.reads.length * 5002 ≤ 30 * 5002 := Nat.mul_le_mul_right _ (by omega)
              omega
            have HRd := Lib.hid hRd
            clear hc3 hry hR hRd hrl
            go_wp2_with fail
            refine p5.mono ?_
            rintro e w5 ⟨rfl, b5⟩
            have hbl6 := (hbl5.below bF).below b5
            have hB6 := hB5.trans ((bF.mono hBx.size).trans (b5.mono (by have := hBx.size; have := bF.size; omega)))
            have p6 := WriteStr_any w1.heap.size w1.heap.size _ (⟨#[9]⟩ ++ R ++ ⟨#[10]⟩) w5 hbl6 (by rw [hzr]; omega) (by have := hB4.size; have := hB6.size; omega)
            clear hzr
            go_wp2_with fail
            refine p6.mono ?_
            rintro e w6 ⟨rfl, hbl7, b7, o7⟩
            go_wp2_with fail
            have HE : Hid (((textL (l.take k) ++ (Q ++ (⟨#[10]⟩ : ByteArray)).data.toList) ++ readsT (cc.reads.take m)) ++ ((⟨#[9]⟩ : ByteArray) ++ R ++ (⟨#[10]⟩ : ByteArray)).data.toList = (textL (l.take k) ++ (Q ++ (⟨#[10]⟩ : ByteArray)).data.toList) ++ readsT (cc.reads.take (m + 1))) := by
              rw [Hid, HRS.out, Joins.data_append (a := (⟨#[9]⟩ : ByteArray) ++ R), Joins.data_append (a := (⟨#[9]⟩ : ByteArray)), HRd.out, List.append_assoc]
              congr 1
            go_roundw
            case rel => exact ⟨m + 1, by go_num, by omega, by rw [← HE.out]; exact hbl7, hB6.trans b7⟩
            case measure => simp [intOf]; omega
          · obtain rfl : m = cc.reads.length := by omega
            have HE : Hid ((textL (l.take k) ++ (Q ++ (⟨#[10]⟩ : ByteArray)).data.toList) ++ readsT (cc.reads.take cc.reads.length) = textL (l.take (k + 1))) := by
              rw [Hid, List.take_length, HS.out, HC.out, Joins.data_append, HQd.out]; simp
            go_wp2_with fail
            go_roundw
            case rel => exact ⟨k + 1, by go_num, by omega, by rw [← HE.out]; exact hbl5, hBx, by have := hB5.size; omega⟩
            case measure => simp [intOf]; omega
      · obtain rfl : k = l.length := by omega
        rw [List.take_length] at hbl
        have p7 := String_any w1.heap.size w1.heap.size (textL l) wr hbl hB.size
        obtain ⟨T, hT2⟩ : ∃ T : ByteArray, (⟨(textL l).toArray⟩ : ByteArray) = T := ⟨_, rfl⟩
        have hTd : T.data.toList = textL l := by rw [← hT2]
        rw [hT2] at p7
        have p8 := fun W => limited_any T W
        rw [hTd] at p8
        have HXX := HX.out
        rw [← HXX] at p8
        have HTD := Lib.hid hTd
        clear hT2 hTd HXX
        go_wp2_with fail
        refine p7.mono ?_
        rintro e w7 ⟨rfl, b7⟩
        go_wp2_with fail
        refine (p8 _).mono ?_
        rintro e w8 ⟨rfl, rfl⟩
        go_wp2_with fail
        go_returns
        exact ⟨rfl, bstep b1 (hB.trans b7)⟩
end Go.Proofs.YtplipnchkkhdaaaGreatDoor
