/- Walk of the reference of layer 33: Lines. -/
import Derived.Test.YtplipnchkkhdaaaGreatDoorZ07
namespace Go.Proofs.YtplipnchkkhdaaaGreatDoor
open Go.RowKit
set_option linter.unusedVariables false

def lineCells (l : List (Nat × Bs)) : List Value := l.flatMap fun x => [S x.2, .int .i64 (x.1 : Int)]
theorem lineCells_snoc (l : List (Nat × Bs)) (p : Nat) (x : Bs) : lineCells (l ++ [(p, x)]) = lineCells l ++ [S x, .int .i64 (p : Int)] := by unfold lineCells; rw [List.flatMap_append]; simp
theorem lineCells_len (l : List (Nat × Bs)) : (lineCells l).length = 2 * l.length := by
  unfold lineCells
  induction l with
  | nil => rfl
  | cons x r ih => rw [List.flatMap_cons, List.length_append, ih]; simp; omega
theorem lineCells_get : ∀ (l : List (Nat × Bs)) (k : Nat) (h : k < l.length), (lineCells l)[2 * k]? = some (S l[k].2) ∧ (lineCells l)[2 * k + 1]? = some (.int .i64 (l[k].1 : Int))
  | x :: r, 0, _ => ⟨rfl, rfl⟩
  | x :: r, k + 1, h => by
    have := lineCells_get r k (by simpa using h)
    rw [show 2 * (k + 1) = 2 * k + 2 by omega, show 2 * k + 2 + 1 = (2 * k + 1) + 2 by omega]
    exact this
  | [], k, h => absurd h (by simp)
/-- how far Lines has come -/
def linesAt (s : ByteArray) (k f : Nat) (done : List (Nat × Bs)) : Prop :=
  (k ≤ s.size ∧ f ≤ k ∧ linesL s.data.toList = done ++ linesGo f ((s.data.toList.drop f).take (k - f)) (s.data.toList.drop k)) ∨ (k = s.size + 1 ∧ linesL s.data.toList = done)
def nextL (s : ByteArray) (k : Nat) : List (Nat × Bs) := if k < s.size then linesGo (k + 1) [] (s.data.toList.drop (k + 1)) else []
theorem linesAt_next {s : ByteArray} {k : Nat} {done : List (Nat × Bs)} (hk : k ≤ s.size) (h : linesL s.data.toList = done ++ nextL s k) : linesAt s (k + 1) (k + 1) done := by
  unfold nextL at h
  by_cases hlt : k < s.size
  · rw [if_pos hlt] at h
    exact Or.inl ⟨hlt, Nat.le_refl _, by rw [h, Nat.sub_self, List.take_zero]⟩
  · rw [if_neg hlt] at h
    exact Or.inr ⟨by omega, by simpa using h⟩
theorem cur_take (s : ByteArray) {f k : Nat} (h : k < s.size) (hf : f ≤ k) : (s.data.toList.drop f).take (k + 1 - f) = (s.data.toList.drop f).take (k - f) ++ [s[k]] := by
  have h1 : k - f < (s.data.toList.drop f).length := by rw [List.length_drop, ← Lib.size_eq]; omega
  rw [show k + 1 - f = (k - f) + 1 by omega, List.take_succ_eq_append_getElem h1]
  congr 1
  rw [List.getElem_drop]
  congr 1
  simp only [show f + (k - f) = k by omega]
  rfl
theorem lines_plain {s : ByteArray} {k f : Nat} {done : List (Nat × Bs)} (h : k < s.size) (hn : s[k] ≠ 10) (H : linesAt s k f done) : linesAt s (k + 1) f done := by
  rcases H with ⟨h1, h2, h3⟩ | ⟨h1, _⟩
  · refine Or.inl ⟨h, by omega, ?_⟩
    rw [h3, drop_byte s k h, linesGo, if_neg hn, cur_take s h h2]
  · omega
theorem lines_emit {s : ByteArray} {k f : Nat} {done : List (Nat × Bs)} (hk : k ≤ s.size) (hn : ∀ h : k < s.size, s[k] = 10) (H : linesAt s k f done) : f ≤ k ∧ linesL s.data.toList = done ++ emit f ((s.data.toList.drop f).take (k - f)) (nextL s k) := by
  rcases H with ⟨h1, h2, h3⟩ | ⟨h1, _⟩
  · refine ⟨h2, ?_⟩
    unfold nextL
    by_cases h : k < s.size
    · rw [if_pos h, h3, drop_byte s k h, linesGo, if_pos (hn h)]
      have : ((s.data.toList.drop f).take (k - f)).length = k - f := by rw [List.length_take, List.length_drop, ← Lib.size_eq]; omega
      rw [this, show f + (k - f) + 1 = k + 1 by omega]
    · have e : s.data.toList.drop k = [] := List.drop_eq_nil_of_le (by rw [← Lib.size_eq]; omega)
      rw [if_neg h, h3, e, linesGo]
  · omega
theorem linInfo : (Tryz.prog.info? 94).map (fun i => (i.zero, i.size, i.bytes)) = some (some (.agg #[.string ⟨#[]⟩, .int .i64 0]), 2, 24) := by kernel_rfl
set_option maxHeartbeats 4000000 in
set_option maxRecDepth 100000 in
theorem rlines_any (s : ByteArray) (w : World) (hs : s.size ≤ 1000000) :
    Calls Tryz.prog 66 #[.string s] w fun e w' => ∃ v, e = .returned v ∧ w'.ownsRow w.heap.size 94 2 v (linesL s.data.toList).length (lineCells (linesL s.data.toList)) ∧ Below w.heap.size w w' := by
  obtain ⟨ic, ci, cz0, cz1, cz2⟩ := info_parts linInfo
  go_enter Tryz.func66, Tryz.ntmps66
  go_wp2_with fail
  go_loopw [3, 4, 5] (fun v fr i wr => ∃ (k f : Nat) (done : List (Nat × Bs)), i = .int .i64 k ∧ fr = .int .i64 f ∧ k ≤ s.size + 1 ∧ f ≤ k ∧ done.length ≤ k ∧ Hid (linesAt s k f done) ∧ Hid (wr.ownsRow w.heap.size 94 2 v done.length (lineCells done)) ∧ Below w.heap.size w wr) (fun _ _ i _ => s.size + 1 - (intOf i).toNat)
  case atStart => exact ⟨0, 0, [], rfl, rfl, by omega, by omega, by simp, Or.inl ⟨by omega, by omega, by simp [linesL]⟩, World.ownsRow_nil _ _ _ _, Below.refl _ _⟩
  case round =>
    obtain ⟨k, f, done, rfl, rfl, hk, hf, hdl, HL, HO, hB⟩ := hrel
    obtain ⟨Av, cv, rfl, hcv, _⟩ := own_sl HO.out
    have k0 : (0 : Int) ≤ (k : Int) := by omega
    have f0 : (0 : Int) ≤ (f : Int) := by omega
    have fk : (f : Int) ≤ (k : Int) := by omega
    by_cases hle : k ≤ s.size
    · by_cases hc : ∃ h : k < s.size, s[k] ≠ 10
      · obtain ⟨hlt, hne⟩ := hc
        have HX := Lib.hid (lines_plain hlt hne HL.out)
        have k1 : (k : Int) < (s.size : Int) := by omega
        have hb : ((((s[k]'hlt).toNat : Nat) : Int) != 10) = true := by
          simp only [bne_iff_ne, ne_eq]
          intro e
          exact hne (UInt8.toNat_inj.1 (by have : (10 : UInt8).toNat = 10 := rfl; omega))
        clear hne
        go_wp2_with fail
        go_roundw
        case rel => exact ⟨k + 1, f, done, by go_num, rfl, by omega, by omega, by omega, HX.out, HO.out, hB⟩
        case measure => simp [intOf]; omega
      · have hn : ∀ h : k < s.size, s[k] = 10 := fun h => by
          by_cases e : s[k] = 10
          · exact e
          · exact absurd ⟨h, e⟩ hc
        obtain ⟨hfk, hE⟩ := lines_emit hle hn HL.out
        have HE := Lib.hid hE
        have HNx : Hid (∀ done', linesL s.data.toList = done' ++ nextL s k → linesAt s (k + 1) (k + 1) done') := fun done' h => linesAt_next hle h
        have hcase : (∃ h : k < s.size, ((((s[k]'h).toNat : Nat) : Int) != 10) = false) ∨ k = s.size := by
          by_cases h : k < s.size
          · exact Or.inl ⟨h, by rw [hn h]; rfl⟩
          · exact Or.inr (by omega)
        have hcur : ((s.data.toList.drop f).take (k - f)).length = k - f := by rw [List.length_take, List.length_drop, ← Lib.size_eq]; omega
        have HCU : Hid ((s.extract f k).data.toList = (s.data.toList.drop f).take (k - f)) := ext_data s f k
        have hcase2 : f = k ∨ (∃ h : f < s.size, f < k ∧ ((((s[f]'h).toNat : Nat) : Int) != 35) = false ∧ emit f ((s.data.toList.drop f).take (k - f)) (nextL s k) = nextL s k) ∨
            (∃ h : f < s.size, f < k ∧ ((((s[f]'h).toNat : Nat) : Int) != 35) = true ∧ emit f ((s.data.toList.drop f).take (k - f)) (nextL s k) = (f, (s.data.toList.drop f).take (k - f)) :: nextL s k) := by
          by_cases h : f = k
          · exact Or.inl h
          · have h1 : f < s.size := by omega
            have h2 : f < k := by omega
            have hd : ((s.data.toList.drop f).take (k - f)).headD 0 = s[f] := by
              rw [drop_byte s f h1]
              cases hkf : k - f with
              | zero => omega
              | succ n => rfl
            have hne : (s.data.toList.drop f).take (k - f) ≠ [] := by intro e; rw [e] at hcur; simp at hcur; omega
            by_cases h3 : s[f] = 35
            · refine Or.inr (Or.inl ⟨h1, h2, by rw [h3]; rfl, ?_⟩)
              unfold emit
              rw [if_pos (Or.inr (by rw [hd]; exact h3))]
            · refine Or.inr (Or.inr ⟨h1, h2, ?_, ?_⟩)
              · simp only [bne_iff_ne, ne_eq]
                intro e
                exact h3 (UInt8.toNat_inj.1 (by have : (35 : UInt8).toNat = 35 := rfl; omega))
              · unfold emit
                rw [if_neg]
                rintro (e | e)
                · exact hne e
                · rw [hd] at e; exact h3 e
        have HF0 : Hid (f = k → emit f ((s.data.toList.drop f).take (k - f)) (nextL s k) = nextL s k) := fun h => by
          unfold emit
          rw [if_pos (Or.inl (List.eq_nil_of_length_eq_zero (by omega)))]
        have kl : (k : Int) ≤ (s.size : Int) := by omega
        have h63 : done.length + 1 ≤ maxLen := by unfold maxLen; omega
        have hby : (done.length + 1) * 24 ≤ 140737488355328 := by omega
        have hbase : w.heap.size ≤ wr.heap.size := hB.size
        clear hcur hn hc hfk
        generalize hX : (s.data.toList.drop f).take (k - f) = cur at *
        have HXX := Lib.hid hX
        clear hX hE
        have key : ∀ done', linesL s.data.toList = done' ++ nextL s k → True := fun _ _ => trivial
        clear key
        rcases hcase with ⟨hlt, hb⟩ | hks
        case' inl => have k1 : (k : Int) < (s.size : Int) := by omega
        case' inr => have k1 : decide (k < s.size) = false := decide_eq_false (by omega)
        all_goals
          rcases hcase2 with h | ⟨h1, h2, h3, h4⟩ | ⟨h1, h2, h3, h4⟩
          · have HX := Lib.hid (HNx.out done (by rw [HE.out, HF0.out h]))
            have d1 : decide (f < k) = false := decide_eq_false (by omega)
            clear h
            try clear hks
            go_wp2_with fail
            go_roundw
            case rel => exact ⟨k + 1, k + 1, done, by go_num, by go_num, by omega, by omega, by omega, HX.out, HO.out, hB⟩
            case measure => simp [intOf]; omega
          · have HX := Lib.hid (HNx.out done (by rw [HE.out, h4]))
            have d1 : decide (f < k) = true := decide_eq_true (by omega)
            have d2 : (f : Int) < (s.size : Int) := by omega
            clear h4
            try clear hks
            go_wp2_with fail
            go_roundw
            case rel => exact ⟨k + 1, k + 1, done, by go_num, by go_num, by omega, by omega, by omega, HX.out, HO.out, hB⟩
            case measure => simp [intOf]; omega
          · have HX := Lib.hid (HNx.out (done ++ [(f, cur)]) (by rw [HE.out, h4, List.append_assoc]; rfl))
            have d1 : decide (f < k) = true := decide_eq_true (by omega)
            have d2 : (f : Int) < (s.size : Int) := by omega
            have HSE : Hid (Value.string (s.extract f k) = S cur) := by
              rw [Hid, S, ← HCU.out]
            clear h4
            try clear hks
            have bT : Below w.heap.size w (wr.alloc (.cells #[.string (s.extract f k), .int .i64 f] 94)) := hB.alloc hB.size _
            have hown3 : (wr.alloc (.cells #[.string (s.extract f k), .int .i64 f] 94)).ownsRow w.heap.size 94 2 (.slice Av done.length cv) done.length (lineCells done) := World.ownsRow.alloc HO.out _
            have hnews := World.news_of_block (heap_alloc_new wr (.cells #[.string (s.extract f k), .int .i64 f] 94))
            have hbase2 : w.heap.size ≤ (wr.alloc (.cells #[.string (s.extract f k), .int .i64 f] 94)).heap.size := bT.size
            go_wp2_with (at_builtin; refine wpList_append_lies _ rfl (.tmp 31) (.tmp 38) 91 rfl w.heap.size 94 ic _ 2 24 Tryz.underlying91 ci cz0 cz1 cz2 rfl (by decide) _ done.length (lineCells done) rfl hown3 ⟨wr.heap.size, 0, none⟩ 1 1 [.string (s.extract f k), .int .i64 f] rfl rfl hnews (by simp [Value.oneCell']) (by decide) h63 hby hbase2 (wr.heap.size + 1) (by simp) ?_; intro g2 cap w5 hown5 hgr5 hat5 hlt5)
            go_roundw
            case rel =>
              refine ⟨k + 1, k + 1, done ++ [(f, cur)], by go_num, by go_num, by omega, by omega, by simp; omega, HX.out, ?_, bT.grown hgr5 hbase2 fun g hg => (hown3.lt g hg).1⟩
              rw [Hid, lineCells_snoc, ← HSE.out, List.length_append]
              exact hown5
            case measure => simp [intOf]; omega
    · obtain rfl : k = s.size + 1 := by omega
      have HX : Hid (linesL s.data.toList = done) := by
        rcases HL.out with ⟨h, _⟩ | ⟨_, h⟩
        · omega
        · exact h
      have kl : ¬ ((s.size : Int) + 1 ≤ (s.size : Int)) := by omega
      go_wp2_with fail
      go_returns
      exact ⟨_, rfl, by rw [HX.out]; exact HO.out, hB⟩

/- Walk of the law's own bare (layer 33). -/
open Go.RowKit
set_option linter.unusedVariables false

theorem bareOf_take (l : List (Nat × Bs)) (k : Nat) (h : k < l.length) : bareOf (l.take (k + 1)) = bareOf (l.take k) ++ l[k].2 ++ [10] := by
  unfold bareOf
  rw [List.take_succ_eq_append_getElem h, List.flatMap_append]
  simp
theorem bareOf_part (l : List (Nat × Bs)) (k : Nat) : (bareOf (l.take k)).length ≤ (bareOf l).length := by
  have : bareOf l = bareOf (l.take k) ++ bareOf (l.drop k) := by unfold bareOf; rw [← List.flatMap_append, List.take_append_drop]
  rw [this, List.length_append]; omega
theorem bareOf_ge : ∀ (l : List (Nat × Bs)), l.length ≤ (bareOf l).length
  | [] => Nat.zero_le _
  | x :: r => by
    have := bareOf_ge r
    have e : bareOf (x :: r) = x.2 ++ [10] ++ bareOf r := by unfold bareOf; rw [List.flatMap_cons]
    rw [e, List.length_cons, List.length_append, List.length_append]
    simp only [List.length_singleton]
    omega
set_option maxHeartbeats 4000000 in
set_option maxRecDepth 100000 in
theorem bare_any (s : ByteArray) (w : World) (hs : s.size ≤ 100000) :
    Calls Tryz.prog 30 #[.string s] w fun e w' => e = .returned (.string ⟨(bareL s.data.toList).toArray⟩) ∧ Below w.heap.size w w' := by
  obtain ⟨i0, hi, hz0, hz1, hz2⟩ := info_parts byteInfo
  have p1 := rlines_any s w (by omega)
  have hbl := bare_len s.data.toList
  have HB : Hid (bareL s.data.toList = bareOf (linesL s.data.toList)) := rfl
  have hbl2 : (bareOf (linesL s.data.toList)).length ≤ 100001 := by rw [← HB.out]; rw [← Lib.size_eq] at hbl; omega
  generalize bareL s.data.toList = R at *
  generalize linesL s.data.toList = l at *
  have HBL := Lib.hid hbl2
  have hll : l.length ≤ 100001 := Nat.le_trans (bareOf_ge l) hbl2
  clear hbl hbl2
  go_enter Tryz.func30, Tryz.ntmps30
  go_wp2_with fail
  refine p1.mono ?_
  rintro e w1 ⟨v1, rfl, hown1, b1⟩
  obtain ⟨A, c, rfl, hc, hrow⟩ := own_sl hown1
  have HROW := Lib.hid hrow
  have hz1' := b1.size
  clear p1 hown1 hrow
  go_wp2_with fail
  go_loopw [3, 5] (fun v i wr => ∃ (k : Nat), i = .int .i64 k ∧ k ≤ l.length ∧ Below w1.heap.size w1 wr ∧ Own w1.heap.size 5 v (Lib.byteCells (bareOf (l.take k))) wr) (fun _ i _ => l.length - (intOf i).toNat)
  case atStart => exact ⟨0, rfl, by omega, Below.refl _ _, Own.nil _ _ _⟩
  case round =>
    obtain ⟨k, rfl, hk, hB, hown⟩ := hrel
    by_cases hlt : k < l.length
    · obtain ⟨b, o, rfl, hbl, hcell⟩ := HROW.out (by intro e; have := lineCells_len l; rw [e] at this; simp at this; omega)
      have g0 := hcell _ _ (lineCells_get l k hlt).1
      have k1 : wr.cell? ⟨b, o + k * 2, none⟩ = some (.string ⟨l[k].2.toArray⟩) := by
        rw [show o + k * 2 = o + 2 * k by omega]
        exact (hB.cell (p := ⟨b, o + 2 * k, none⟩) hbl).trans g0
      have k0 : (0 : Int) ≤ (k : Int) := by omega
      have kl : (k : Int) < (l.length : Int) := by omega
      have HN := Lib.hid (bareOf_take l k hlt)
      have hp1 := bareOf_part l (k + 1)
      have hp2 := HBL.out
      rw [HN.out, List.length_append, List.length_append] at hp1
      generalize l[k].2 = y at *
      generalize bareOf (l.take k) = acc at *
      have hcv : acc.length + (⟨y.toArray⟩ : ByteArray).size ≤ 140737488355328 := by rw [Lib.size_eq]; show acc.length + y.length ≤ _; omega
      have hml : (Lib.byteCells (acc ++ y)).length + 1 ≤ maxLen := by rw [Lib.byteCells_length, List.length_append]; unfold maxLen; omega
      have hmb : ((Lib.byteCells (acc ++ y)).length + 1) * 1 ≤ 140737488355328 := by rw [Lib.byteCells_length, List.length_append]; omega
      clear hcell g0 hp1 hp2
      go_wp2_with (first | (at_builtin; refine wpList_appS rfl (.tmp 14) (.tmp 19) 67 9 rfl w1.heap.size 5 i0 Tryz.underlying67 Tryz.underlying9 hi hz0 hz1 hz2 _ acc rfl hown rfl hcv hB.size ?_; intro v' w3 hown4 hb4; have hB3 := hB.trans hb4) | (at_builtin; refine wpList_app1 rfl (.tmp 21) (.tmp 22) 67 rfl w1.heap.size i0 _ 1 Tryz.underlying67 hi hz0 hz1 hz2 rfl _ (Lib.byteCells (acc ++ y)) rfl hown4 1 rfl rfl hml hmb hB3.size ?_; intro v2 w4 hown5 _ hb5))
      go_roundw
      case rel =>
        refine ⟨k + 1, by go_num, by omega, hB3.trans hb5, ?_⟩
        rw [HN.out, ← byteCells_snoc1]
        exact hown5
      case measure => simp [intOf]; omega
    · obtain rfl : k = l.length := by omega
      have hcv := own_string Tryz.underlying67 Tryz.underlying5 Tryz.underlying9 hown
      go_wp2_with fail
      go_returns
      exact ⟨by rw [HB.out]; rfl, bstep b1 hB⟩
end Go.Proofs.YtplipnchkkhdaaaGreatDoor
