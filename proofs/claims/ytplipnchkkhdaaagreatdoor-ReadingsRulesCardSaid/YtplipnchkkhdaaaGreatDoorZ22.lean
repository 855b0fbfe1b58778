/- Slices of structs that came in: what their cells hold. -/
import Derived.Test.YtplipnchkkhdaaaGreatDoorZ21
import Derived.Test.YtplipnchkkhdaaaGreatDoorZ02
import Derived.SliceStrings
import Derived.OpenShut
import Derived.Carry
import Derived.ChangeArms
import Derived.ChangeSame
import Derived.DataReads
import Derived.Lib.SmallJoins
import Derived.Test.YtplipnchkkhdaaaGreatDoorZ17
import Derived.Handed
namespace Go.Proofs.YtplipnchkkhdaaaGreatDoor
open Go.RowKit Go.ChangeShapes Go.WideShapes
set_option linter.unusedVariables false

theorem addr_add0 {b o : Nat} (j : Nat) : (⟨b, o, none⟩ : Addr).add j = ⟨b, o + j, none⟩ := by unfold Addr.add; split <;> simp_all
theorem flat_get {n : Nat} : ∀ (css : List (List Value)) (i j : Nat) (h : i < css.length), (∀ x ∈ css, x.length = n) → j < n → css.flatten[i * n + j]? = css[i][j]?
  | c :: r, 0, j, h, hl, hj => by
    have := hl c List.mem_cons_self
    rw [List.flatten_cons, Nat.zero_mul, Nat.zero_add, List.getElem?_append_left (by omega)]; rfl
  | c :: r, i + 1, j, h, hl, hj => by
    have h1 := hl c List.mem_cons_self
    have ih := flat_get r i j (by simpa using h) (fun x hx => hl x (List.mem_cons_of_mem _ hx)) hj
    rw [List.flatten_cons, List.getElem?_append_right (by rw [h1, Nat.add_mul]; omega), h1, Nat.add_mul, Nat.one_mul, show i * n + n + j - n = i * n + j by omega, ih]
    rfl
  | [], i, j, h, _, _ => absurd h (by simp)
theorem flat_len {n : Nat} : ∀ (css : List (List Value)), (∀ x ∈ css, x.length = n) → css.flatten.length = css.length * n
  | [], _ => by simp
  | c :: r, h => by
    have h1 := h c List.mem_cons_self
    have ih := flat_len r (fun x hx => h x (List.mem_cons_of_mem _ hx))
    rw [List.flatten_cons, List.length_append, ih, List.length_cons, h1, Nat.add_mul]; omega
/-- the elements of a slice that came in, one by one -/
theorem open_elems {H : Type} {enc : TypeId × Value → H} {P : Program} {w : World} {base : Nat} {spare : Nat → Bool} {held : Bool} {t e : TypeId} {n fuel : Nat} {a : Option Addr} {len cap : Nat} {x : DataW H × List MemPlace}
    (ht : P.underlying t = some (.slice e)) (hn : P.cellsOf e = n) (hn0 : 0 < n)
    (h : DataW.trod enc P w base spare held fuel t (Value.slice a len cap).cells.toList = some x) :
    ∃ (css : List (List Value)) (ys : List (DataW H × List MemPlace)) (sp : List (DataW H)) (f : Nat), css.length = len ∧ ys.length = len ∧ len ≤ cap ∧ cap ≤ maxLen ∧ RowAt w a css.flatten ∧ (∀ cs ∈ css, cs.length = n) ∧
      (∀ (i : Nat) (h1 : i < css.length) (h2 : i < ys.length), DataW.trod enc P w base spare held f e css[i] = some ys[i]) ∧ (x.1 = .slice (ys.map (·.1)) sp ∨ (x.1 = .nil ∧ len = 0)) := by
  rcases DataW.trod_slice ht h with ⟨hcs, hx⟩ | ⟨a', len', cap', elems, rest, f, _, hcs, hx, hb, hl, hm, hlen, hel, _, _⟩
  · simp [Value.cells] at hcs
    obtain ⟨rfl, rfl, rfl⟩ := hcs
    exact ⟨[], [], [], 0, rfl, rfl, Nat.le_refl _, by unfold maxLen; omega, RowAt.nil _ _, (fun _ h => by cases h), (fun i h1 _ => absurd h1 (by simp)), Or.inr ⟨by rw [hx], rfl⟩⟩
  · simp [Value.cells] at hcs
    obtain ⟨rfl, rfl, rfl⟩ := hcs
    rw [hn] at hel
    have hex : ∀ i (hi : i < len), ∃ cs, w.cells? base (a'.add (i * n)) n = some cs ∧ DataW.trod enc P w base spare held f e cs = some (elems[i]'(by omega)) := by
      intro i hi
      have := hel i hi
      rw [List.getElem?_eq_getElem (by omega), Option.bind_eq_some_iff] at this
      exact this
    refine ⟨(List.range len).map fun i => (w.cells? base (a'.add (i * n)) n).getD [], elems, rest.map (·.1), f, by simp, hlen, hl, hm, ?_, ?_, ?_, Or.inl (by rw [hx])⟩
    · intro hne
      have hlen2 : ∀ cs ∈ (List.range len).map (fun i => (w.cells? base (a'.add (i * n)) n).getD []), cs.length = n := by
        intro cs hc
        obtain ⟨i, hi, rfl⟩ := List.mem_map.1 hc
        obtain ⟨cs, h1, _⟩ := hex i (List.mem_range.1 hi)
        rw [h1]
        exact (World.cells?_some h1).2.1
      have hpos : 0 < len := by
        rcases Nat.eq_zero_or_pos len with h0 | h0
        · subst h0; simp at hne
        · exact h0
      obtain ⟨bk, off, spot⟩ := a'
      obtain ⟨c0, hc0, _⟩ := hex 0 hpos
      obtain ⟨_, hl0, hk0⟩ := World.cells?_some hc0
      have hz := hk0 0 hn0
      rw [List.getElem?_eq_getElem (by omega)] at hz
      have hspot : spot = none := by simpa [Addr.add] using World.cell?_spot hz
      subst hspot
      refine ⟨bk, off, rfl, ?_, fun j u hu => ?_⟩
      · rw [Nat.zero_mul, addr_add0, addr_add0] at hz
        exact cell_lt hz
      · have hj : j < len * n := by
          have := flat_len _ hlen2
          rw [List.length_map, List.length_range] at this
          have := (List.getElem?_eq_some_iff.1 hu).1
          omega
        have hi : j / n < len := by rw [Nat.div_lt_iff_lt_mul hn0]; exact hj
        have hr : j % n < n := Nat.mod_lt _ hn0
        have he : j / n * n + j % n = j := by rw [Nat.mul_comm]; exact Nat.div_add_mod j n
        obtain ⟨cs, h1, _⟩ := hex (j / n) hi
        have hg := flat_get _ (j / n) (j % n) (by simpa using hi) hlen2 hr
        rw [he, hu] at hg
        simp only [List.getElem_map, List.getElem_range] at hg
        rw [h1] at hg
        have := (World.cells?_some h1).2.2 (j % n) hr
        rw [addr_add0, addr_add0, Nat.add_assoc, he] at this
        rw [this]
        exact hg.symm
    · intro cs hc
      obtain ⟨i, hi, rfl⟩ := List.mem_map.1 hc
      obtain ⟨cs, h1, _⟩ := hex i (List.mem_range.1 hi)
      rw [h1]
      exact (World.cells?_some h1).2.1
    · intro i h1 h2
      obtain ⟨cs, h3, h4⟩ := hex i (by simpa using h1)
      simp only [List.getElem_map, List.getElem_range]
      rw [h3]
      exact h4
/-- no string and no slice of a datum is beyond what memory can hold -/
def Light (P : Program) {H : Type} (t : TypeId) (d : DataW H) : Prop := ∀ x ∈ DataW.weights P t d, x ≤ reachBytes
theorem light_all {H : Type} {P : Program} {e : TypeId} : ∀ {l : List (DataW H)}, (∀ x ∈ DataW.weightsAll P e l, x ≤ reachBytes) → ∀ d ∈ l, Light P e d
  | [], _, d, hd => by cases hd
  | c :: r, h, d, hd => by
    unfold DataW.weightsAll at h
    rcases List.mem_cons.1 hd with rfl | hd
    · exact fun x hx => h x (List.mem_append_left _ hx)
    · exact light_all (fun x hx => h x (List.mem_append_right _ hx)) d hd
theorem light_slice {H : Type} {P : Program} {t e : TypeId} {l sp : List (DataW H)} (ht : P.underlying t = some (.slice e)) (h : Light P t (.slice l sp)) : (l.length + sp.length) * P.bytesOf e ≤ reachBytes ∧ ∀ d ∈ l, Light P e d := by
  unfold Light DataW.weights at h
  rw [ht] at h
  exact ⟨h _ List.mem_cons_self, light_all fun x hx => h x (List.mem_cons_of_mem _ (List.mem_append_left _ hx))⟩
theorem flat_ones {α : Type} {f : List α → α} : ∀ {css : List (List α)}, (∀ cs ∈ css, cs = [f cs]) → css.flatten = css.map f
  | [], _ => rfl
  | c :: r, h => by
    rw [List.flatten_cons, List.map_cons, flat_ones (fun x hx => h x (List.mem_cons_of_mem _ hx))]
    conv => lhs; rw [h c List.mem_cons_self]
    rfl
/-- the list of a slice's elements out of what each one is -/
theorem pick_list {α β : Type} {R : α → β → Prop} : ∀ {l : List α}, (∀ a ∈ l, ∃ b, R a b) → ∃ m : List β, m.length = l.length ∧ ∀ (i : Nat) (h1 : i < l.length) (h2 : i < m.length), R l[i] m[i]
  | [], _ => ⟨[], rfl, fun i h1 _ => absurd h1 (by simp)⟩
  | a :: r, h => by
    obtain ⟨b, hb⟩ := h a List.mem_cons_self
    obtain ⟨m, hm, hr⟩ := pick_list (l := r) (fun x hx => h x (List.mem_cons_of_mem _ hx))
    refine ⟨b :: m, by simp [hm], fun i h1 h2 => ?_⟩
    cases i with
    | zero => exact hb
    | succ i => exact hr i (by simpa using h1) (by simpa using h2)
theorem flat_S : ∀ {css : List (List Value)} {m : List Bs}, m.length = css.length → (∀ (i : Nat) (h1 : i < css.length) (h2 : i < m.length), css[i] = [S m[i]]) → css.flatten = m.map S
  | [], [], _, _ => rfl
  | c :: r, x :: m, hl, h => by
    have h0 := h 0 (by simp) (by simp)
    have ih := flat_S (css := r) (m := m) (by simpa using hl) (fun i h1 h2 => h (i + 1) (by simpa using h1) (by simpa using h2))
    rw [List.flatten_cons, ih, List.map_cons]
    show c ++ _ = _
    rw [show c = [S x] from h0]; rfl
  | [], x :: m, hl, _ => by simp at hl
  | c :: r, [], hl, _ => by simp at hl
/-- a slice of strings that came in -/
theorem open_strsV {H : Type} {enc : TypeId × Value → H} {P : Program} {w : World} {base : Nat} {spare : Nat → Bool} {held : Bool} {t e : TypeId} {fuel : Nat} {v : Value} {x : DataW H × List MemPlace}
    (ht : P.underlying t = some (.slice e)) (he : P.underlying e = some .string) (hc : P.cellsOf e = 1) (hb : P.bytesOf e = 16)
    (h : DataW.trod enc P w base spare held fuel t [v] = some x) (hw : Light P t x.1) : ∃ l : List Bs, StrsV w v l ∧ HoldsB l := by
  have hv : ∃ a len cap, v = .slice a len cap := by
    rcases DataW.trod_slice ht h with ⟨hcs, _⟩ | ⟨a', len', cap', _, _, _, _, hcs, _⟩
    · exact ⟨none, 0, 0, by simpa using hcs⟩
    · exact ⟨some a', len', cap', by simpa using hcs⟩
  obtain ⟨a, len, cap, rfl⟩ := hv
  obtain ⟨css, ys, sp, f, h1, h2, h3, h4, h5, h6, h7, h8⟩ := open_elems ht hc (by omega) (by simpa [Value.cells] using h)
  have hlight : len * 16 ≤ reachBytes ∧ ∀ d ∈ ys.map (·.1), Light P e d := by
    rcases h8 with h8 | ⟨h8, h9⟩
    · rw [h8] at hw
      obtain ⟨g1, g2⟩ := light_slice ht hw
      rw [hb, List.length_map, h2] at g1
      exact ⟨by omega, g2⟩
    · subst h9
      obtain rfl : ys = [] := List.eq_nil_of_length_eq_zero h2
      exact ⟨by unfold reachBytes; omega, fun d hd => by cases hd⟩
  have hex : ∀ p ∈ css.zip ys, ∃ s : Bs, p.1 = [S s] ∧ s.length ≤ reachBytes := by
    intro p hp
    obtain ⟨i, hi, rfl⟩ := List.getElem_of_mem hp
    rw [List.length_zip] at hi
    rw [List.getElem_zip]
    have ht7 := h7 i (by omega) (by omega)
    obtain ⟨s, hs1, hs2, _⟩ := DataW.trod_string he ht7
    refine ⟨s.data.toList, hs1, ?_⟩
    have := hlight.2 ys[i].1 (List.mem_map.2 ⟨ys[i], List.getElem_mem _, rfl⟩)
    rw [hs2] at this
    exact this _ (by unfold DataW.weights; exact List.mem_cons_self)
  obtain ⟨m, hm, hR⟩ := pick_list hex
  have hml : m.length = css.length := by rw [hm, List.length_zip]; omega
  have hfl := flat_S hml (fun i g1 g2 => by have := (hR i (by rw [List.length_zip]; omega) g2).1; rwa [List.getElem_zip] at this)
  have hlen : m.length = len := by omega
  refine ⟨m, ⟨a, cap, by rw [hlen], by omega, by rw [← hfl]; exact h5⟩, ?_, fun x hx => ?_⟩
  · have := hlight.1; unfold reachBytes at this; omega
  · obtain ⟨i, hi, rfl⟩ := List.getElem_of_mem hx
    have := (hR i (by rw [List.length_zip]; omega) hi).2
    unfold reachBytes at this; omega
/-- a slice that came in, given what each of its elements is -/
theorem open_list {H : Type} {enc : TypeId × Value → H} {P : Program} {w : World} {base : Nat} {spare : Nat → Bool} {held : Bool} {t e : TypeId} {n by' fuel : Nat} {v : Value} {x : DataW H × List MemPlace} {β : Type} {R : List Value → β → Prop}
    (ht : P.underlying t = some (.slice e)) (hc : P.cellsOf e = n) (hn0 : 0 < n) (hb : P.bytesOf e = by') (hb0 : 0 < by')
    (hel : ∀ (f : Nat) (cs : List Value) (y : DataW H × List MemPlace), DataW.trod enc P w base spare held f e cs = some y → Light P e y.1 → ∃ b, R cs b)
    (h : DataW.trod enc P w base spare held fuel t [v] = some x) (hw : Light P t x.1) :
    ∃ (css : List (List Value)) (m : List β) (a : Option Addr) (cap : Nat), v = .slice a m.length cap ∧ m.length ≤ cap ∧ css.length = m.length ∧ RowAt w a css.flatten ∧ (∀ (i : Nat) (h1 : i < css.length) (h2 : i < m.length), R css[i] m[i]) ∧ m.length ≤ 140737488355328 := by
  have hv : ∃ a len cap, v = .slice a len cap := by
    rcases DataW.trod_slice ht h with ⟨hcs, _⟩ | ⟨a', len', cap', _, _, _, _, hcs, _⟩
    · exact ⟨none, 0, 0, by simpa using hcs⟩
    · exact ⟨some a', len', cap', by simpa using hcs⟩
  obtain ⟨a, len, cap, rfl⟩ := hv
  obtain ⟨css, ys, sp, f, h1, h2, h3, h4, h5, h6, h7, h8⟩ := open_elems ht hc hn0 (by simpa [Value.cells] using h)
  have hlight : len ≤ reachBytes ∧ ∀ d ∈ ys.map (·.1), Light P e d := by
    rcases h8 with h8 | ⟨h8, h9⟩
    · rw [h8] at hw
      obtain ⟨g1, g2⟩ := light_slice ht hw
      rw [hb, List.length_map, h2] at g1
      have : len ≤ (len + sp.length) * by' := Nat.le_trans (Nat.le_add_right _ _) (Nat.le_mul_of_pos_right _ hb0)
      exact ⟨by omega, g2⟩
    · subst h9
      obtain rfl : ys = [] := List.eq_nil_of_length_eq_zero h2
      exact ⟨by unfold reachBytes; omega, fun d hd => by cases hd⟩
  have hex : ∀ p ∈ css.zip ys, ∃ b : β, R p.1 b := by
    intro p hp
    obtain ⟨i, hi, rfl⟩ := List.getElem_of_mem hp
    rw [List.length_zip] at hi
    rw [List.getElem_zip]
    exact hel f _ _ (h7 i (by omega) (by omega)) (hlight.2 ys[i].1 (List.mem_map.2 ⟨ys[i], List.getElem_mem _, rfl⟩))
  obtain ⟨m, hm, hR⟩ := pick_list hex
  have hml : m.length = css.length := by rw [hm, List.length_zip]; omega
  have hlen : m.length = len := by omega
  refine ⟨css, m, a, cap, by rw [hlen], by omega, hml.symm, h5, fun i g1 g2 => ?_, by have := hlight.1; unfold reachBytes at this; omega⟩
  have := hR i (by rw [List.length_zip]; omega) g2
  rwa [List.getElem_zip] at this
theorem light_struct {H : Type} {P : Program} {t : TypeId} {fs : Array Field} {ds : List (DataW H)} (ht : P.underlying t = some (.struct fs)) (h : Light P t (.agg ds)) : ∀ x ∈ DataW.weightsEach P (fs.toList.map (·.type)) ds, x ≤ reachBytes := by
  unfold Light DataW.weights at h
  rw [ht] at h
  exact h
theorem light_two {H : Type} {P : Program} {t : TypeId} {ts : List TypeId} {d : DataW H} {ds : List (DataW H)} (h : ∀ x ∈ DataW.weightsEach P (t :: ts) (d :: ds), x ≤ reachBytes) : Light P t d ∧ ∀ x ∈ DataW.weightsEach P ts ds, x ≤ reachBytes := by
  unfold DataW.weightsEach at h
  exact ⟨fun x hx => h x (List.mem_append_left _ hx), fun x hx => h x (List.mem_append_right _ hx)⟩
section
variable {H : Type} {enc : TypeId × Value → H} {w : World} {base : Nat} {spare : Nat → Bool} {held : Bool}
theorem flat_V {β : Type} {R : Value → β → Prop} : ∀ {css : List (List Value)} {m : List β}, css.length = m.length → (∀ (i : Nat) (h1 : i < css.length) (h2 : i < m.length), ∃ v, css[i] = [v] ∧ R v m[i]) → ∃ vs, css.flatten = vs ∧ AllV R vs m
  | [], [], _, _ => ⟨[], rfl, trivial⟩
  | c :: r, x :: m, hl, h => by
    obtain ⟨v, h0, hR⟩ := h 0 (by simp) (by simp)
    obtain ⟨vs, ih, ha⟩ := flat_V (css := r) (m := m) (by simpa using hl) (fun i h1 h2 => h (i + 1) (by simpa using h1) (by simpa using h2))
    refine ⟨v :: vs, ?_, hR, ha⟩
    rw [List.flatten_cons, ih, show c = [v] from h0]; rfl
  | [], x :: m, hl, _ => by simp at hl
  | c :: r, [], hl, _ => by simp at hl
theorem allV_and {β : Type} {R Q : Value → β → Prop} : ∀ {vs : List Value} {m : List β}, AllV (fun v b => R v b ∧ Q v b) vs m → AllV R vs m ∧ AllV Q vs m
  | [], [], _ => ⟨trivial, trivial⟩
  | v :: vs, b :: m, h => ⟨⟨h.1.1, (allV_and h.2).1⟩, ⟨h.1.2, (allV_and h.2).2⟩⟩
  | [], b :: m, h => h.elim
  | v :: vs, [], h => h.elim
theorem allV_mem {β : Type} {p : β → Prop} : ∀ {vs : List Value} {m : List β}, AllV (fun _ b => p b) vs m → ∀ b ∈ m, p b
  | [], [], _, b, hb => by cases hb
  | v :: vs, c :: m, h, b, hb => by
    rcases List.mem_cons.1 hb with rfl | hb
    · exact h.1
    · exact allV_mem h.2 b hb
  | [], c :: m, h, _, _ => h.elim
  | v :: vs, [], h, _, _ => h.elim
end
section
variable {H : Type} {enc : TypeId × Value → H} {w : World} {base : Nat} {spare : Nat → Bool} {held : Bool}
set_option maxRecDepth 100000 in
/-- readings that came in -/
theorem open_reads {fuel : Nat} {v : Value} {x : DataW H × List MemPlace} (h : DataW.trod enc Tryz.prog w base spare held fuel 27 [v] = some x) (hw : Light Tryz.prog 27 x.1) :
    ∃ rs : List (List Bs), ReadsV w v rs ∧ rs.length ≤ 140737488355328 ∧ ∀ r ∈ rs, HoldsB r := by
  obtain ⟨css, m, a, cap, rfl, hcap, hcl, hrow, hR, hm⟩ := open_list (R := fun cs (b : List Bs) => ∃ v, cs = [v] ∧ (StrsV w v b ∧ HoldsB b)) Tryz.underlying27 (show Tryz.prog.cellsOf 50 = 1 by kernel_rfl) (by omega) (show Tryz.prog.bytesOf 50 = 24 by kernel_rfl) (by omega) (fun f cs y h1 h2 => by
      obtain ⟨y0, n, hx, hl, h3⟩ := trod_struct1 Tryz.underlying50 h1
      rw [hx] at h2
      have h4 := (light_two (light_struct Tryz.underlying50 h2)).1
      rw [show Tryz.prog.cellsOf 50 = 1 by kernel_rfl] at hl
      obtain ⟨u, rfl⟩ : ∃ u, cs = [u] := by
        match cs, hl with
        | [u], _ => exact ⟨u, rfl⟩
      obtain ⟨l, g1, g2⟩ := open_strsV Tryz.underlying31 Tryz.underlying9 (by kernel_rfl) (by kernel_rfl) (by rw [show Tryz.prog.cellsOf 31 = 1 by kernel_rfl] at h3; simpa using h3) h4
      exact ⟨l, u, rfl, g1, g2⟩) h hw
  obtain ⟨vs, hfl, hall⟩ := flat_V (R := fun v (b : List Bs) => StrsV w v b ∧ HoldsB b) hcl hR
  obtain ⟨hA, hB⟩ := allV_and hall
  exact ⟨m, ⟨vs, ⟨a, cap, rfl, hcap, by rw [← hfl]; exact hrow⟩, hA⟩, hm, allV_mem (p := HoldsB) hB⟩
theorem flat_C {R : Value → Coh → Prop} : ∀ {css : List (List Value)} {m : List Coh}, css.length = m.length → (∀ (i : Nat) (h1 : i < css.length) (h2 : i < m.length), ∃ v, css[i] = [S m[i].form, v] ∧ R v m[i]) → ∃ xs, css.flatten = cohCells m xs ∧ AllV R xs m
  | [], [], _, _ => ⟨[], rfl, trivial⟩
  | c :: r, x :: m, hl, h => by
    obtain ⟨v, h0, hR⟩ := h 0 (by simp) (by simp)
    obtain ⟨vs, ih, ha⟩ := flat_C (css := r) (m := m) (by simpa using hl) (fun i h1 h2 => h (i + 1) (by simpa using h1) (by simpa using h2))
    refine ⟨v :: vs, ?_, hR, ha⟩
    rw [List.flatten_cons, ih, show c = [S x.form, v] from h0]; rfl
  | [], x :: m, hl, _ => by simp at hl
  | c :: r, [], hl, _ => by simp at hl
set_option maxRecDepth 100000 in
/-- cohorts that came in -/
theorem open_cohs {fuel : Nat} {v : Value} {x : DataW H × List MemPlace} (h : DataW.trod enc Tryz.prog w base spare held fuel 22 [v] = some x) (hw : Light Tryz.prog 22 x.1) :
    ∃ (l : List Coh) (A : Option Addr) (c : Nat), v = .slice A l.length c ∧ CohsV w (.slice A l.length c) l ∧ l.length ≤ 140737488355328 ∧ Holds3 l := by
  obtain ⟨css, m, a, cap, rfl, hcap, hcl, hrow, hR, hm⟩ := open_list (R := fun cs (c : Coh) => ∃ v, cs = [S c.form, v] ∧ (ReadsV w v c.reads ∧ (c.form.length ≤ 140737488355328 ∧ c.reads.length ≤ 140737488355328 ∧ ∀ r ∈ c.reads, HoldsB r))) Tryz.underlying22 (show Tryz.prog.cellsOf 29 = 2 by kernel_rfl) (by omega) (show Tryz.prog.bytesOf 29 = 40 by kernel_rfl) (by omega) (fun f cs y h1 h2 => by
      obtain ⟨y0, y1, n, hx, hl, h3, h4⟩ := trod_struct2 Tryz.underlying29 h1
      rw [hx] at h2
      obtain ⟨g0, h5⟩ := light_two (light_struct Tryz.underlying29 h2)
      have g1 := (light_two h5).1
      rw [show Tryz.prog.cellsOf 29 = 2 by kernel_rfl] at hl
      obtain ⟨u, u2, rfl⟩ : ∃ u u2, cs = [u, u2] := by
        match cs, hl with
        | [u, u2], _ => exact ⟨u, u2, rfl⟩
      rw [show Tryz.prog.cellsOf 9 = 1 by kernel_rfl] at h3
      rw [show Tryz.prog.cellsOf 27 = 1 by kernel_rfl] at h4
      obtain ⟨s, hs1, hs2, _⟩ := DataW.trod_string Tryz.underlying9 h3
      obtain rfl : u = .string s := by simpa using hs1
      obtain ⟨rs, r1, r2, r3⟩ := open_reads (by simpa using h4) g1
      refine ⟨⟨s.data.toList, rs⟩, u2, rfl, r1, ?_, r2, r3⟩
      rw [hs2] at g0
      have := g0 s.data.toList.length (by unfold DataW.weights; exact List.mem_cons_self)
      unfold reachBytes at this
      show s.data.toList.length ≤ _
      omega) h hw
  obtain ⟨xs, hfl, hall⟩ := flat_C (R := fun v (c : Coh) => ReadsV w v c.reads ∧ (c.form.length ≤ 140737488355328 ∧ c.reads.length ≤ 140737488355328 ∧ ∀ r ∈ c.reads, HoldsB r)) hcl hR
  obtain ⟨hA, hB⟩ := allV_and hall
  refine ⟨m, a, cap, rfl, ⟨xs, ⟨a, cap, rfl, hcap, by rw [← hfl]; exact hrow⟩, hA⟩, hm, fun c hc => ?_⟩
  obtain ⟨b1, b2, b3⟩ := allV_mem (p := fun (c : Coh) => c.form.length ≤ 140737488355328 ∧ c.reads.length ≤ 140737488355328 ∧ ∀ r ∈ c.reads, HoldsB r) hB c hc
  exact ⟨b1, b2, fun r hr => b3 r hr⟩
end

/- Slices of tests and of rules that came in: what their cells hold. -/
open Go.RowKit Go.ChangeShapes Go.WideShapes Go.Joins
set_option linter.unusedVariables false

section
variable {H : Type} {enc : TypeId × Value → H} {P : Program} {w : World} {base : Nat} {spare : Nat → Bool} {held : Bool}
theorem trod_struct6 {t : TypeId} {f0 f1 f2 f3 f4 f5 : Field} {fuel : Nat} {cs : List Value} {x : DataW H × List MemPlace} (ht : P.underlying t = some (.struct #[f0, f1, f2, f3, f4, f5])) (h : DataW.trod enc P w base spare held fuel t cs = some x) :
    ∃ y0 y1 y2 y3 y4 y5 n, x.1 = .agg [y0.1, y1.1, y2.1, y3.1, y4.1, y5.1] ∧ cs.length = P.cellsOf t ∧ DataW.trod enc P w base spare held n f0.type ((cs.drop f0.offset).take (P.cellsOf f0.type)) = some y0 ∧
      DataW.trod enc P w base spare held n f1.type ((cs.drop f1.offset).take (P.cellsOf f1.type)) = some y1 ∧ DataW.trod enc P w base spare held n f2.type ((cs.drop f2.offset).take (P.cellsOf f2.type)) = some y2 ∧
      DataW.trod enc P w base spare held n f3.type ((cs.drop f3.offset).take (P.cellsOf f3.type)) = some y3 ∧ DataW.trod enc P w base spare held n f4.type ((cs.drop f4.offset).take (P.cellsOf f4.type)) = some y4 ∧
      DataW.trod enc P w base spare held n f5.type ((cs.drop f5.offset).take (P.cellsOf f5.type)) = some y5 := by
  obtain ⟨xs, n, _, rfl, hl, hlen, hf⟩ := DataW.trod_struct ht h
  match xs, hlen with
  | [y0, y1, y2, y3, y4, y5], _ => exact ⟨y0, y1, y2, y3, y4, y5, n, by simp, hl, by simpa using hf 0 f0 rfl, by simpa using hf 1 f1 rfl, by simpa using hf 2 f2 rfl, by simpa using hf 3 f3 rfl, by simpa using hf 4 f4 rfl, by simpa using hf 5 f5 rfl⟩
end
theorem flat_T {R : Value × Value → Tst → Prop} : ∀ {css : List (List Value)} {m : List Tst}, css.length = m.length → (∀ (i : Nat) (h1 : i < css.length) (h2 : i < m.length), ∃ v : Value × Value, css[i] = [.int .i64 m[i].at_, .bool m[i].scan, .bool m[i].not_, .bool m[i].careful, v.1, v.2] ∧ R v m[i]) → ∃ xs, css.flatten = tstCells m xs ∧ AllP R xs m
  | [], [], _, _ => ⟨[], rfl, trivial⟩
  | c :: r, x :: m, hl, h => by
    obtain ⟨v, h0, hR⟩ := h 0 (by simp) (by simp)
    obtain ⟨vs, ih, ha⟩ := flat_T (css := r) (m := m) (by simpa using hl) (fun i h1 h2 => h (i + 1) (by simpa using h1) (by simpa using h2))
    refine ⟨v :: vs, ?_, hR, ha⟩
    rw [List.flatten_cons, ih, show c = [.int .i64 x.at_, .bool x.scan, .bool x.not_, .bool x.careful, v.1, v.2] from h0]; rfl
  | [], x :: m, hl, _ => by simp at hl
  | c :: r, [], hl, _ => by simp at hl
theorem flat_R {R : Value × Value → Rul → Prop} : ∀ {css : List (List Value)} {m : List Rul}, css.length = m.length → (∀ (i : Nat) (h1 : i < css.length) (h2 : i < m.length), ∃ v : Value × Value, css[i] = [.int .i64 m[i].op, v.1, v.2, .bool m[i].uns] ∧ R v m[i]) → ∃ xs, css.flatten = rulCells m xs ∧ AllP R xs m
  | [], [], _, _ => ⟨[], rfl, trivial⟩
  | c :: r, x :: m, hl, h => by
    obtain ⟨v, h0, hR⟩ := h 0 (by simp) (by simp)
    obtain ⟨vs, ih, ha⟩ := flat_R (css := r) (m := m) (by simpa using hl) (fun i h1 h2 => h (i + 1) (by simpa using h1) (by simpa using h2))
    refine ⟨v :: vs, ?_, hR, ha⟩
    rw [List.flatten_cons, ih, show c = [.int .i64 x.op, v.1, v.2, .bool x.uns] from h0]; rfl
  | [], x :: m, hl, _ => by simp at hl
  | c :: r, [], hl, _ => by simp at hl
theorem allP_and {α β : Type} {R Q : β → α → Prop} : ∀ {vs : List β} {m : List α}, AllP (fun v b => R v b ∧ Q v b) vs m → AllP R vs m ∧ AllP Q vs m
  | [], [], _ => ⟨trivial, trivial⟩
  | v :: vs, b :: m, h => ⟨⟨h.1.1, (allP_and h.2).1⟩, ⟨h.1.2, (allP_and h.2).2⟩⟩
  | [], b :: m, h => h.elim
  | v :: vs, [], h => h.elim
theorem allP_mem {α β : Type} {p : α → Prop} : ∀ {vs : List β} {m : List α}, AllP (fun _ b => p b) vs m → ∀ b ∈ m, p b
  | [], [], _, b, hb => by cases hb
  | v :: vs, c :: m, h, b, hb => by
    rcases List.mem_cons.1 hb with rfl | hb
    · exact h.1
    · exact allP_mem h.2 b hb
  | [], c :: m, h, _, _ => h.elim
  | v :: vs, [], h, _, _ => h.elim
section
variable {H : Type} {enc : TypeId × Value → H} {w : World} {base : Nat} {spare : Nat → Bool} {held : Bool}
set_option maxRecDepth 100000 in
/-- tests that came in -/
theorem open_tsts {fuel : Nat} {v : Value} {x : DataW H × List MemPlace} (h : DataW.trod enc Tryz.prog w base spare held fuel 40 [v] = some x) (hw : Light Tryz.prog 40 x.1) :
    ∃ l : List Tst, TstsV w v l ∧ l.length ≤ 140737488355328 ∧ ∀ t ∈ l, HoldsB t.tags ∧ HoldsB t.barrier := by
  obtain ⟨css, m, a, cap, rfl, hcap, hcl, hrow, hR, hm⟩ := open_list (R := fun cs (c : Tst) => ∃ v : Value × Value, cs = [.int .i64 c.at_, .bool c.scan, .bool c.not_, .bool c.careful, v.1, v.2] ∧ ((StrsV w v.1 c.tags ∧ StrsV w v.2 c.barrier) ∧ (HoldsB c.tags ∧ HoldsB c.barrier))) Tryz.underlying40 (show Tryz.prog.cellsOf 79 = 6 by kernel_rfl) (by omega) (show Tryz.prog.bytesOf 79 = 64 by kernel_rfl) (by omega) (fun f cs y h1 h2 => by
      obtain ⟨y0, y1, y2, y3, y4, y5, n, hx, hl, g0, g1, g2, g3, g4, g5⟩ := trod_struct6 Tryz.underlying79 h1
      rw [hx] at h2
      have e0 := (light_two (light_struct Tryz.underlying79 h2)).2
      have e1 := (light_two e0).2
      have e2 := (light_two e1).2
      have e3 := (light_two e2).2
      have e4 := light_two e3
      have e5 := light_two e4.2
      rw [show Tryz.prog.cellsOf 79 = 6 by kernel_rfl] at hl
      obtain ⟨u0, u1, u2, u3, u4, u5, rfl⟩ : ∃ u0 u1 u2 u3 u4 u5, cs = [u0, u1, u2, u3, u4, u5] := by
        match cs, hl with
        | [u0, u1, u2, u3, u4, u5], _ => exact ⟨u0, u1, u2, u3, u4, u5, rfl⟩
      rw [show Tryz.prog.cellsOf 3 = 1 by kernel_rfl] at g0
      rw [show Tryz.prog.cellsOf 4 = 1 by kernel_rfl] at g1 g2 g3
      rw [show Tryz.prog.cellsOf 31 = 1 by kernel_rfl] at g4 g5
      obtain ⟨z, z1, _⟩ := DataW.trod_int Tryz.underlying3 g0
      obtain rfl : u0 = .int .i64 z := by simpa using z1
      obtain ⟨b1, q1, _⟩ := DataW.trod_bool Tryz.underlying4 g1
      obtain rfl : u1 = .bool b1 := by simpa using q1
      obtain ⟨b2, q2, _⟩ := DataW.trod_bool Tryz.underlying4 g2
      obtain rfl : u2 = .bool b2 := by simpa using q2
      obtain ⟨b3, q3, _⟩ := DataW.trod_bool Tryz.underlying4 g3
      obtain rfl : u3 = .bool b3 := by simpa using q3
      obtain ⟨t4, k4, m4⟩ := open_strsV (v := u4) Tryz.underlying31 Tryz.underlying9 (by kernel_rfl) (by kernel_rfl) (by simpa using g4) e4.1
      obtain ⟨t5, k5, m5⟩ := open_strsV (v := u5) Tryz.underlying31 Tryz.underlying9 (by kernel_rfl) (by kernel_rfl) (by simpa using g5) e5.1
      exact ⟨⟨z, b1, b2, b3, t4, t5⟩, (u4, u5), rfl, ⟨k4, k5⟩, m4, m5⟩) h hw
  obtain ⟨xs, hfl, hall⟩ := flat_T (R := fun v (c : Tst) => (StrsV w v.1 c.tags ∧ StrsV w v.2 c.barrier) ∧ (HoldsB c.tags ∧ HoldsB c.barrier)) hcl hR
  obtain ⟨hA, hB⟩ := allP_and hall
  exact ⟨m, ⟨xs, ⟨a, cap, rfl, hcap, by rw [← hfl]; exact hrow⟩, hA⟩, hm, allP_mem (p := fun (c : Tst) => HoldsB c.tags ∧ HoldsB c.barrier) hB⟩
set_option maxRecDepth 100000 in
/-- rules that came in -/
theorem open_ruls {fuel : Nat} {v : Value} {x : DataW H × List MemPlace} (h : DataW.trod enc Tryz.prog w base spare held fuel 37 [v] = some x) (hw : Light Tryz.prog 37 x.1) :
    ∃ (l : List Rul) (A : Option Addr) (c : Nat), v = .slice A l.length c ∧ RulsV w (.slice A l.length c) l ∧ l.length ≤ 140737488355328 ∧ HoldsR l := by
  obtain ⟨css, m, a, cap, rfl, hcap, hcl, hrow, hR, hm⟩ := open_list (R := fun cs (c : Rul) => ∃ v : Value × Value, cs = [.int .i64 c.op, v.1, v.2, .bool c.uns] ∧ (RulV w v c ∧ (HoldsB c.target ∧ c.tests.length ≤ 140737488355328 ∧ ∀ t ∈ c.tests, HoldsB t.tags ∧ HoldsB t.barrier))) Tryz.underlying37 (show Tryz.prog.cellsOf 42 = 4 by kernel_rfl) (by omega) (show Tryz.prog.bytesOf 42 = 64 by kernel_rfl) (by omega) (fun f cs y h1 h2 => by
      obtain ⟨y0, y1, y2, y3, n, hx, hl, g0, g1, g2, g3⟩ := trod_struct4 Tryz.underlying42 h1
      rw [hx] at h2
      have e0 := (light_two (light_struct Tryz.underlying42 h2)).2
      have e1 := light_two e0
      have e2 := light_two e1.2
      rw [show Tryz.prog.cellsOf 42 = 4 by kernel_rfl] at hl
      obtain ⟨u0, u1, u2, u3, rfl⟩ : ∃ u0 u1 u2 u3, cs = [u0, u1, u2, u3] := by
        match cs, hl with
        | [u0, u1, u2, u3], _ => exact ⟨u0, u1, u2, u3, rfl⟩
      rw [show Tryz.prog.cellsOf 3 = 1 by kernel_rfl] at g0
      rw [show Tryz.prog.cellsOf 4 = 1 by kernel_rfl] at g3
      rw [show Tryz.prog.cellsOf 31 = 1 by kernel_rfl] at g1
      rw [show Tryz.prog.cellsOf 40 = 1 by kernel_rfl] at g2
      obtain ⟨z, z1, _⟩ := DataW.trod_int Tryz.underlying3 g0
      obtain rfl : u0 = .int .i64 z := by simpa using z1
      obtain ⟨b3, q3, _⟩ := DataW.trod_bool Tryz.underlying4 g3
      obtain rfl : u3 = .bool b3 := by simpa using q3
      obtain ⟨t1, k1, m1⟩ := open_strsV (v := u1) Tryz.underlying31 Tryz.underlying9 (by kernel_rfl) (by kernel_rfl) (by simpa using g1) e1.1
      obtain ⟨t2, k2, m2, m3⟩ := open_tsts (v := u2) (by simpa using g2) e2.1
      exact ⟨⟨z, t1, t2, b3⟩, (u1, u2), rfl, ⟨k1, k2⟩, m1, m2, m3⟩) h hw
  obtain ⟨xs, hfl, hall⟩ := flat_R (R := fun v (c : Rul) => RulV w v c ∧ (HoldsB c.target ∧ c.tests.length ≤ 140737488355328 ∧ ∀ t ∈ c.tests, HoldsB t.tags ∧ HoldsB t.barrier)) hcl hR
  obtain ⟨hA, hB⟩ := allP_and hall
  exact ⟨m, a, cap, rfl, ⟨xs, ⟨a, cap, rfl, hcap, by rw [← hfl]; exact hrow⟩, hA⟩, hm, allP_mem (p := fun (c : Rul) => HoldsB c.target ∧ c.tests.length ≤ 140737488355328 ∧ ∀ t ∈ c.tests, HoldsB t.tags ∧ HoldsB t.barrier) hB⟩
end

/- The wrap that hands on the world's shape and the weights of what came in. -/
open Go.RowKit Go.ChangeShapes Go.Lib
set_option linter.unusedVariables false
set_option maxRecDepth 100000

theorem handed_sized {H : Type} {enc : TypeId × Value → H} {a : Assume} {C : Checked} {os : Os} {f : FuncId} {fn : Func} {s : ChangeSpec} {conds : List PathCond} {apart fresh handsOn again : Bool} {X : World → Array Value → Prop}
    (hX : ∀ (w w' : World) (args : Array Value), w.heap = w'.heap → X w args → X w' args)
    (own : ownKnob C.prog.godebug = none) (started : os.Started) (noInit : C.prog.inits.idxOf? f = none) (hfn : C.prog.funcs[f]? = some fn)
    (witness : ∃ (w : World) (tape : Tape) (i : Input), w.os = os ∧ (w.forCall tape i).Shaped C.prog ∧ i.vars = [] ∧ Input.okWide C.prog (w.forCall tape i) .any w.heap.size f i ∧
      ((s.pre enc C.prog fn conds apart (w.forCall tape i).memory i.args ∧ X (w.forCall tape i).memory i.args) ∧ sizedMet enc C.prog fn (OpenSpec.ofChange s) apart (w.forCall tape i).memory i.args) ∧ a.holds C.prog (lone (Frame.enter C.prog f i.args .normal) [] (w.forCall tape i)))
    (contract : ∀ (W : World) (base : Nat) (args : Array Value) (ds gs : List (DataW H)) (before : List MemPlace),
      (∀ (j : Nat) t v, fn.params[j]? = some t → args[j]? = some v → Value.okWide C.prog W .any base t v) →
      DataW.Whole enc C.prog fn.params.toList (OpenSpec.ofChange s).vars apart W args.toList ds gs before → (∀ x ∈ DataW.weightsEach C.prog (fn.params.toList ++ (OpenSpec.ofChange s).bare.plain.varTypes C.prog) (ds ++ gs), x ≤ reachBytes) → X W args → W.ShapedOpen C.prog →
      Calls C.prog f args W fun e W' => ∃ v, e = .returned v ∧ s.post enc C.prog fn apart fresh handsOn again W args v W') :
    ReturnsInHanded a C os f .any (fun w args => (s.pre enc C.prog fn conds apart w args ∧ X w args) ∧ sizedMet enc C.prog fn (OpenSpec.ofChange s) apart w args) (s.post enc C.prog fn apart fresh handsOn again) := by
  refine returnsInHanded_of_calls own started noInit witness (fun w tape i _ hsh _ hok hpre _ => ?_)
  obtain ⟨_, _, _, g, hg, _, _, _, _, hval⟩ := hok
  obtain rfl : g = fn := Option.some.inj (hg.symm.trans hfn)
  obtain ⟨⟨_, hx⟩, _, ds, gs, before, hw, hwt⟩ := hpre
  refine (contract (w.forCall tape i) w.heap.size i.args ds gs before hval (DataW.Whole.of_heap (by rfl) hw) (by simpa using hwt) (hX _ _ _ (by rfl) hx) hsh).mono ?_
  rintro e W' ⟨v, rfl, hp⟩
  exact ChangeSpec.post_blind hp
end Go.Proofs.YtplipnchkkhdaaaGreatDoor
