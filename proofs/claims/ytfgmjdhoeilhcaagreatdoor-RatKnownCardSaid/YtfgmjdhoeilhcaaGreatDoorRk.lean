/- Walks: the division of blocks. -/
import Derived.Test.YtfgmjdhoeilhcaaGreatDoorRd
import Derived.Test.YtfgmjdhoeilhcaaGreatDoorNz
namespace Go.Proofs.YtfgmjdhoeilhcaaGreatDoor
open Go.RowKit
set_option linter.unusedVariables false

section
variable {P : Program}
/-- append of one element, with the block where the row is then -/
theorem wpList_app1_at {ops : Array Oper} {rest : List Oper} {o : Oper} {a : Act} {Q : Exit → Act → World → Prop} {w : World} {e : TypeId} {u : Value} (hgd : o.guard = none) (s x : Operand) (t : TypeId)
    (ho : o.op = .call { callee := .builtin .append, args := #[s, x], argTypes := #[t, t] })
    (B : Nat) (i : TypeInfo) (z : Value) (bytes : Nat) (ht : P.underlying t = some (.slice e)) (hi : P.info? e = some i) (hz : i.zero = some z)
    (hsize : i.size = 1) (hby : i.bytes = bytes) (hzs : z.cells.size = 1)
    (v : Value) (cs : List Value) (hs : a.eval s = v) (hown : Own B e v cs w) (c : Nat) (hx : a.eval x = .slice (some ⟨w.heap.size, 0, none⟩) 1 c) (h1 : u.oneCell' = true)
    (hb1 : cs.length + 1 ≤ maxLen) (hbytes : (cs.length + 1) * bytes ≤ 140737488355328) (hB : B ≤ w.heap.size)
    (h : ∀ v' w', Own B e v' (cs ++ [u]) w' → w.grownBy w' v.ownBlock → Below B w w' → (v'.ownBlock = v.ownBlock ∨ v'.ownBlock = some (w.heap.size + 1)) → wpList P ops Q rest (a.put o.dst v') w') : wpList P ops Q (o :: rest) a (w.alloc (.cells #[u] e)) := by
  refine wpList_append_own_at _ hgd s x t ho B e i z 1 bytes ht hi hz hsize hby hzs (by decide) v cs.length cs hs (hown.alloc _) ⟨w.heap.size, 0, none⟩ 1 c [u] hx rfl ?_ ?_ hb1 hbytes (by simp; omega) ?_
  · intro j y hy
    match j, hy with
    | 0, hy => simp at hy; subst hy; simp [Addr.add]
  · intro y hy; simp at hy; subst hy; exact h1
  · intro v' w' h2 h3 h4 h5
    have hg : w.grownBy w' v.ownBlock := ⟨h3.os, h3.tape, h3.output, Nat.le_trans (by simp) h3.size, fun k hk hne => (h3.block k (by simp; omega) hne).trans (Below.heap_alloc w _ k hk)⟩
    refine h v' w' (by unfold Own; rw [List.length_append]; exact h2) hg ?_ ?_
    · exact (Below.refl B w).grown hg hB (fun k hk => (hown.lt k hk).1)
    · rcases h5 with h5 | h5
      · exact Or.inl h5
      · right; rw [h5]; simp
end
/-- an own row that is not empty -/
theorem Own.made {B : Nat} {v : Value} {L : List Nat} {w : World} (h : Own B 89 v (L.map U) w) (hne : L ≠ []) : ∃ g c, v = .slice (some ⟨g, 0, none⟩) L.length c ∧ B ≤ g ∧ g < w.heap.size ∧ L.length ≤ c ∧ MadeC B g L.length c L w := by
  have h' := h
  unfold Own at h'
  rw [List.length_map] at h'
  rcases h'.2 with ⟨rfl, h0⟩ | ⟨g, cap, cur, rfl, hB, hg, hn, hm, hc, ht⟩
  · exact absurd (List.eq_nil_of_length_eq_zero h0) hne
  · exact ⟨g, cap, rfl, hB, (Array.getElem?_eq_some_iff.1 hg).1, hn, rfl, h'⟩
theorem MadeC.own {B g n c : Nat} {L : List Nat} {w : World} (h : MadeC B g n c L w) : Own B 89 (.slice (some ⟨g, 0, none⟩) n c) (L.map U) w := by
  unfold Own; rw [List.length_map, h.1]; exact h.2
theorem MadeC.grown {B g n c g' : Nat} {L : List Nat} {w w' : World} (h : MadeC B g n c L w) (hg : w.grownBy w' (some g')) (hne : g ≠ g') : MadeC B g n c L w' :=
  ⟨h.1, World.ownsRow.kept h.2 hg (Or.inr (by simp [Value.ownBlock]; exact hne))⟩
theorem MadeC.below {B g n c : Nat} {L : List Nat} {w w' : World} (h : MadeC B g n c L w) (hb : Below w.heap.size w w') : MadeC B g n c L w' :=
  ⟨h.1, World.ownsRow.kept h.2 (grown_of_below hb none) (Or.inr (by simp [Value.ownBlock]))⟩
theorem MadeC.upto {B g n c k : Nat} {L : List Nat} {w : World} (h : MadeC B g n c L w) (hk : k ≤ n) : MadeC B g k c (L.take k) w := by
  have h1 := h.own.upto (k := k) (by rw [List.length_map, h.1]; exact hk)
  have hl : (L.take k).length = k := by rw [List.length_take, h.1]; omega
  refine ⟨hl, ?_⟩
  unfold Own at h1
  rw [← List.map_take, List.length_map, hl] at h1
  exact h1
theorem MadeC.kept {B g n c : Nat} {L : List Nat} {w w' : World} {row : Option Nat} (h : MadeC B g n c L w) (hg : w.grownBy w' row) (hne : some g ≠ row) : MadeC B g n c L w' :=
  ⟨h.1, World.ownsRow.kept h.2 hg (Or.inr (by simpa [Value.ownBlock] using hne))⟩
theorem Made.c {B g n : Nat} {L : List Nat} {w : World} (h : Made B g n L w) : MadeC B g n n L w := h
/-- these numbers lie in block b from its start on -/
def At (w : World) (b : Nat) (V : List Nat) : Prop := ∀ j (h : j < V.length), w.cell? ⟨b, 0 + j, none⟩ = some (.int .u64 V[j])
theorem At.grown {w w' : World} {b g : Nat} {V : List Nat} (h : At w b V) (hg : w.grownBy w' (some g)) (hne : b ≠ g) : At w' b V := fun j hj => grown_cell hg hne (h j hj)
theorem At.kept {w w' : World} {b : Nat} {V : List Nat} {row : Option Nat} (h : At w b V) (hg : w.grownBy w' row) (hne : some b ≠ row) : At w' b V := fun j hj => by
  have hc := h j hj
  have e := hg.block b (cell_lt hc) hne
  unfold World.cell? at hc ⊢
  rw [e]; exact hc
theorem MadeC.at {B g n c : Nat} {L : List Nat} {w : World} (h : MadeC B g n c L w) : At w g L := fun j hj => by rw [Nat.zero_add]; exact h.cell hj
/-- what divide answers -/
def DivPost (w : World) (q r : Nat) (e : Ending) (w' : World) : Prop :=
  ∃ A c A' c', e = .returned (.tuple #[.slice A (blk q).length c, .slice A' (blk r).length c']) ∧ (blk q).length ≤ c ∧ (blk r).length ≤ c' ∧ RowAt w' A ((blk q).map U) ∧ RowAt w' A' ((blk r).map U) ∧ Below w.heap.size w w'

set_option maxHeartbeats 4000000 in
set_option maxRecDepth 100000 in
theorem divide_any (A B : Option Addr) (c d m n : Nat) (w : World) (hn : n ≠ 0) (hA : RowAt w A ((blk m).map U)) (hB : RowAt w B ((blk n).map U)) (hm : (blk m).length ≤ 1000) (hnl : (blk n).length ≤ 1000) (hc : (blk m).length ≤ c) :
    Calls Tryz.prog 91 #[.slice A (blk m).length c, .slice B (blk n).length d] w (DivPost w (m / n) (m % n)) := by
  obtain ⟨i0, hi, hz0, hz1, hz2⟩ := info_parts u64Info
  by_cases hlt : m < n
  · have hcmp := fun W h1 h2 => compare_any A B c d m n W h1 h2 (by omega) (by omega)
    rw [cmpI_lt hlt] at hcmp
    have hq : m / n = 0 := Nat.div_eq_of_lt hlt
    have hr : m % n = m := Nat.mod_eq_of_lt hlt
    rw [hq, hr]
    clear hq hr hlt hn hi
    generalize hX : (blk m).length = X at *
    generalize (blk n).length = Y at *
    go_enter Tryz.func91, Tryz.ntmps91
    go_wp2_with fail
    refine (hcmp _ hA hB).mono ?_
    rintro e w1 ⟨rfl, b1⟩
    go_wp2_with fail
    go_returns
    exact ⟨none, 0, A, c, by simp [blk_zero, hX], by simp [blk_zero], by omega, RowAt.nil _ _, hA.below b1, b1⟩
  · have hmn : n ≤ m := by omega
    have hm0 : m ≠ 0 := by omega
    have hcmp := fun W h1 h2 => compare_any A B c d m n W h1 h2 (by omega) (by omega)
    obtain ⟨cc, hcc⟩ : ∃ z, cmpI m n = z := ⟨_, rfl⟩
    have hcge : ¬ cc < 0 := by rw [← hcc]; intro h; have := (cmpI_neg m n).1 h; omega
    rw [hcc] at hcmp
    clear hcc hlt
    obtain ⟨K, hK⟩ : ∃ z, sclK n = z := ⟨_, rfl⟩
    have hK1 : 1 ≤ K := by rw [← hK]; exact sclK_pos n
    have hKB : K ≤ BB := by rw [← hK]; exact sclK_le n
    have su := fun W h1 => scaledB_any A c m K W hKB h1 (by omega)
    have sv := fun W h1 => scaledB_any B d n K W hKB h1 (by omega)
    have hul := scl_len_more m n
    have hvl := scl_len hn
    rw [hK] at hul hvl
    have hYpos := List.length_pos_iff.2 (blk_ne hn)
    have hYX : (blk n).length ≤ (blk m).length := by
      apply (digL_length BB_two _ _).2
      have := blk_high m
      omega
    have HOPEN : Hid (∀ L : List Nat, L.length = (blk m).length + 1 → valL BB L = K * m → valL BB (L.drop (L.length - (blk n).length)) < K * n) := by
      rw [Hid, ← hK]; exact fun L h1 h2 => div_open hn hmn h1 h2
    have hyl := blk_lt n
    have hKe : BB / ((blk n).getD ((blk n).length - 1) 0 + 1) = K := hK
    have hUne : blk (K * m) ≠ [] := blk_ne (Nat.mul_ne_zero (by omega) hm0)
    have hVne : blk (K * n) ≠ [] := blk_ne (Nat.mul_ne_zero (by omega) hn)
    have HUL := Lib.hid (blk_lt (K * m))
    have HVL := Lib.hid (blk_lt (K * n))
    have HUV := Lib.hid (blk_val (K * m))
    have HVV := Lib.hid (blk_val (K * n))
    have HVC := Lib.hid (blk_canon (K * n))
    obtain ⟨bB, oB, rfl, hbB, hcellB⟩ := hB (by intro e; rw [List.map_eq_nil_iff] at e; exact blk_ne hn e)
    have hBrow : RowAt w (some ⟨bB, oB, none⟩) ((blk n).map U) := fun _ => ⟨bB, oB, rfl, hbB, hcellB⟩
    have htop := hcellB ((blk n).length - 1) _ (getU (show (blk n).length - 1 < (blk n).length by omega))
    have hyt := hyl _ (List.getElem_mem (show (blk n).length - 1 < (blk n).length by omega))
    rw [getD_eq (show (blk n).length - 1 < (blk n).length by omega)] at hKe
    generalize (blk n)[(blk n).length - 1] = yt at htop hyt hKe
    have hyt' : yt < 1000000000 := hyt
    generalize (blk m).length = X at *
    generalize (blk n).length = Y at *
    obtain ⟨p, hp⟩ : ∃ p, Y - 1 = p := ⟨_, rfl⟩
    rw [hp] at htop
    have hpi : (Y : Int) - 1 = (p : Int) := by omega
    have hp0 : (0 : Int) ≤ (p : Int) := by omega
    have hpY : (p : Int) < (Y : Int) := by omega
    have hKi : (1000000000 : Int) / ((yt : Int) + 1) = (K : Int) := by
      have h1 : ((1000000000 / (yt + 1) : Nat) : Int) = (1000000000 : Int) / ((yt : Int) + 1) := Int.natCast_ediv _ _
      rw [← h1]; congr 1
    have hKt : (1000000000 : Int).tdiv ((yt : Int) + 1) = (K : Int) := by rw [Int.tdiv_eq_ediv_of_nonneg (by omega)]; exact hKi
    have wyt : IntKind.u64.wrap ((yt : Int) + 1) = (yt : Int) + 1 := by rw [IntKind.wrap_u64]; omega
    have wK : IntKind.u64.wrap (K : Int) = (K : Int) := by unfold BB at hKB; rw [IntKind.wrap_u64]; omega
    have yne : ¬ ((yt : Int) + 1) = 0 := by omega
    have HKn : Hid (0 < K * n) := Nat.mul_pos hK1 (Nat.pos_of_ne_zero hn)
    clear hcellB hK hKe hyl hyt hp hB hn hm0
    have hb0 : Below w.heap.size w w := Below.refl _ _
    go_enter Tryz.func91, Tryz.ntmps91
    go_wp2_with fail
    refine (hcmp _ hA hBrow).mono ?_
    rintro e w1 ⟨rfl, b1⟩
    have ht1 : w1.cell? ⟨bB, oB + p, none⟩ = some (.int .u64 yt) := (b1.cell (p := ⟨bB, oB + p, none⟩) hbB).trans htop
    have hA1 := bstep hb0 b1
    clear htop
    go_wp2_with fail
    clear hcmp ht1 hp0 hpY hpi hKi hKt wyt yne hcge
    refine (su _ (hA.below b1)).mono ?_
    rintro e w2 ⟨vu, rfl, hu, b2⟩
    have hA2 := bstep hA1 b2
    go_wp2_with fail
    refine (sv _ ((hBrow.below b1).below b2)).mono ?_
    rintro e w3 ⟨vv, rfl, hv, b3⟩
    have hA3 := bstep hA2 b3
    obtain ⟨gu, cu, rfl, hgu1, hgu2, hcu, hmu⟩ := hu.made hUne
    obtain ⟨gv, cv, rfl, hgv1, hgv2, hcv, hmv⟩ := hv.made hVne
    have hmu3 := hmu.below b3
    have hat := hmv.at
    clear hu hv hmu hmv su sv hUne hVne hBrow hA
    obtain ⟨X1, hX1⟩ : ∃ z, X + 1 = z := ⟨_, rfl⟩
    rw [hX1] at hul
    obtain ⟨hul1, hul2⟩ := hul
    obtain ⟨ku, hku⟩ : ∃ z, (blk (K * m)).length = z := ⟨_, rfl⟩
    rw [hku] at hmu3 hul1 hul2 hcu
    rw [hvl] at hcv
    have hgne : gu ≠ gv := by omega
    have hgub : w.heap.size ≤ gu := by have := b1.size; omega
    rw [hku, hvl]
    have hmu3' : MadeC w.heap.size gu ku cu (blk (K * m)) w3 := ⟨hmu3.1, by
      have h1 := (hmu3.own).lower (B' := w.heap.size) b1.size
      unfold Own at h1
      rw [List.length_map, hmu3.1] at h1
      exact h1⟩
    clear hmu3
    generalize blk (K * n) = V at *
    generalize blk (K * m) = U0 at *
    go_wp2_with fail
    go_loopw [8] (fun u wr => ∃ (k g cw : Nat) (L : List Nat), u = .slice (some ⟨g, 0, none⟩) k cw ∧ MadeC w.heap.size g k cw L wr ∧ X ≤ k ∧ k ≤ X1 ∧ k ≤ cw ∧ g ≠ gv ∧ w.heap.size ≤ g ∧ gv < wr.heap.size ∧ Below w.heap.size w wr ∧ At wr gv V ∧ Hid (∀ d ∈ L, d < BB) ∧ Hid (valL BB L = K * m)) (fun u _ => X1 - sliceLen u)
    case atStart => exact ⟨ku, gu, cu, U0, rfl, hmu3', hul1, hul2, hcu, hgne, hgub, hgv2, hA3, hat, HUL, HUV⟩
    case round =>
      obtain ⟨k, g, cw, L, rfl, hmk, hk1, hk2, hk3, hg1, hg2, hg3, hbr, hat', HL, HV⟩ := hrel
      clear hmu3' hul1 hul2 hgne hgub hgu1 hgu2 hgv1 hgv2 hat HUL HUV hku hcu
      by_cases hk : k ≤ X
      · have hLk := hmk.1
        have hml : (L.map U).length + 1 ≤ maxLen := by rw [List.length_map]; unfold maxLen; omega
        have hmb : ((L.map U).length + 1) * 8 ≤ 140737488355328 := by rw [List.length_map]; omega
        have hown := hmk.own
        have hki : (k : Int) ≤ (X : Int) := by omega
        have HZ := Lib.hid hX1
        clear hX1
        go_wp2_with (at_builtin; refine wpList_app1_at rfl (.tmp 40) (.tmp 41) 87 rfl w.heap.size i0 _ 8 Tryz.underlying87 hi hz0 hz1 hz2 rfl (.slice (some ⟨g, 0, none⟩) k cw) (L.map U) rfl hown 1 rfl rfl hml hmb hbr.size ?_; intro v' w4 hown4 hgr4 hb4 hloc4)
        go_roundw
        case rel =>
          have hown5 : Own w.heap.size 89 v' ((L ++ [0]).map U) w4 := by rw [← U_snoc]; exact hown4
          obtain ⟨g', c', rfl, h1, h2, h3, h4⟩ := hown5.made (by simp)
          have hl5 : (L ++ [0]).length = k + 1 := by rw [List.length_append, hLk]; rfl
          rw [hl5] at h3 h4
          have hg' : g' ≠ gv := by
            rcases hloc4 with h | h
            · simp [Value.ownBlock] at h; rw [h]; exact hg1
            · simp [Value.ownBlock] at h; omega
          refine ⟨k + 1, g', c', L ++ [0], by rw [hl5], h4, by omega, by have := HZ.out; omega, h3, hg', h1, by have := hb4.size; omega, hbr.trans hb4, hat'.kept hgr4 (by simp [Value.ownBlock]; exact fun e => hg1 e.symm), ?_, ?_⟩
          · intro x hx
            rcases List.mem_append.1 hx with hx | hx
            · exact HL.out x hx
            · rw [List.mem_singleton.1 hx]; exact BB_pos
          · rw [Hid, valL_snoc, HV.out]; simp
        case measure =>
          have hl4 := hown4.1
          have hv4 := hown4.row.to (n := k + 1) (by rw [List.length_append, List.length_map, hLk]; rfl)
          obtain ⟨A', c', rfl, h1, _⟩ := hv4
          have := HZ.out
          simp only [sliceLen]; omega
      · obtain rfl : k = X1 := by omega
        have hLk := hmk.1
        obtain ⟨N, hN⟩ : ∃ z, k - Y = z := ⟨_, rfl⟩
        have hNi : (k : Int) - (Y : Int) = (N : Int) := by omega
        have hopen := HOPEN.out L (by omega) HV.out
        rw [hLk, hN] at hopen
        have HOP := Lib.hid hopen
        have hki : (X : Int) < (k : Int) := by omega
        have hNk : N + Y = k := by omega
        have hkb : k ≤ 1001 := by omega
        obtain ⟨gq, hgq⟩ : ∃ z, wr.heap.size = z := ⟨_, rfl⟩
        have hggq : g < gq := by rw [← hgq]; exact cell_lt (hmk.cell (j := 0) (by omega))
        clear hopen HOPEN hk hk1 hk2 hX1 hN
        go_wp2_with (at_make; refine wpList_make_full _ rfl (.tmp 46) (.tmp 46) 87 rfl w.heap.size 89 i0 (.int .u64 0) 1 Tryz.underlying87 hi hz0 hz1 .i64 .i64 _ _ N rfl rfl (by omega) (by omega) (by rw [hz2]; omega) (by unfold maxLen; omega) hbr.size ?_; intro w5 own5 hg5)
        have hmade : (madeCells (Value.int .u64 0).cells (N * 1)).toList = (List.replicate N 0).map U := by
          rw [Nat.mul_one, List.map_replicate]
          exact toList_madeCells_one (.int .u64 0) N
        rw [hmade] at own5
        have hb5 : Below w.heap.size w w5 := hbr.grown hg5 hbr.size (by simp)
        have hu5 := hmk.kept hg5 (by simp)
        have hv5 := hat'.kept hg5 (by simp)
        rw [hgq] at own5
        have hq5 : MadeC w.heap.size gq N N (List.replicate N 0) w5 := ⟨by simp, own5⟩
        have hgqv : gq ≠ gv := by omega
        clear hmade hg5 own5 hgq hmk hat' hbr hg3
        go_loopw [50] (fun i wr => ∃ (i1 t : Nat) (L Q : List Nat), i = .int .i64 i1 ∧ i1 + t = N ∧ MadeC w.heap.size g k cw L wr ∧ MadeC w.heap.size gq N N Q wr ∧ At wr gv V ∧ Below w.heap.size w wr ∧ Hid (∀ d ∈ L, d < BB) ∧ Hid (∀ d ∈ Q, d < BB) ∧ Hid (K * m = BB ^ t * valL BB (Q.drop t) * (K * n) + valL BB L) ∧ Hid (valL BB (L.drop t) < K * n)) (fun i _ => N - (intOf i).toNat)
        case atStart =>
          refine ⟨0, N, L, List.replicate N 0, rfl, by omega, hu5, hq5, hv5, hb5, HL, fun x hx => by rw [List.eq_of_mem_replicate hx]; exact BB_pos, ?_, HOP⟩
          rw [Hid, HV.out, List.drop_eq_nil_of_le (by simp)]
          simp [valL]
        case round =>
          obtain ⟨i1, t, L1, Q, rfl, hit, hu, hq, hv, hb, HL1, HQ, HE, HT⟩ := hrel
          clear hu5 hq5 hv5 hb5 HOP HV HL
          by_cases hlt : i1 < N
          · obtain ⟨o, rfl⟩ : ∃ o, t = o + 1 := ⟨t - 1, by omega⟩
            have hL1 := hu.1
            have hQ1 := hq.1
            have hwin := div_window (o := o) (by omega) HL1.out HT.out
            have hdig := fun cuu cvv => digit_any w.heap.size g k cw o Y cuu gv 0 cvv L1 V wr hu HL1.out HVL.out HVC.out hvl (by omega) (by omega) (by omega) (fun e => hg1 e.symm) hv (by rw [HVV.out]; exact hwin)
            simp only [HVV.out] at hdig
            have HRND := Lib.hid (fun (L' : List Nat) (hl : L'.length = L1.length) ht hd => div_round (V := K * n) HKn.out (by omega) (by omega) hl HE.out ht hd)
            have HDG := Lib.hid (div_digit hwin)
            generalize valL BB (L1.drop o) / (K * n) = z at *
            clear hwin
            have oi : (N : Int) - 1 - (i1 : Int) = (o : Int) := by omega
            have o0 : (0 : Int) ≤ (o : Int) := by omega
            have oN : (o : Int) < (N : Int) := by omega
            have oc : (o : Int) + (Y : Int) + 1 ≤ (cw : Int) := by omega
            have oy : (o : Int) ≤ (o : Int) + (Y : Int) + 1 := by omega
            go_wp2_with fail
            rw [show o + Y + 1 - o = Y + 1 by omega]
            refine (hdig _ _).mono ?_
            rintro e w6 ⟨rfl, L2, hu6, hgr6, hL2, htk, hdr⟩
            have hq6 := hq.kept hgr6 (by simp; omega)
            have hv6 := hv.kept hgr6 (by simp; omega)
            have hb6 : Below w.heap.size w w6 := hb.grown hgr6 hb.size (fun j hj => by injection hj with hj; omega)
            have HR6 := Lib.hid (HRND.out L2 (by rw [hu6.1, hL1]) htk hdr)
            have hcq := hq6.cell (j := o) (by omega)
            have hfq := hq6.frozen o
            have hst := hq6.store o z
            have hgst := grown_store (grown_refl w6 gq) o (.int .u64 z)
            have hu7 := hu6.kept hgst (by simp; omega)
            have hv7 := hv6.kept hgst (by simp; omega)
            have hb7 : Below w.heap.size w (w6.setCell ⟨gq, o, none⟩ (.int .u64 z)) := hb6.setCell (p := ⟨gq, o, none⟩) (by show w.heap.size ≤ gq; omega) _
            have HSL := Lib.hid (set_lt (j := o) HQ.out HDG.out)
            clear hdig HRND htk hdr hgr6 hu hq hv hb hu6 hq6 hv6 hgst
            go_wp2_with fail
            go_roundw
            case rel => exact ⟨i1 + 1, o, L2, Q.set o z, by go_num, by omega, hu7, hst, hv7, hb7, hL2, HSL, HR6.out.1, HR6.out.2⟩
            case measure => simp [intOf]; omega
          · obtain rfl : i1 = N := by omega
            obtain rfl : t = 0 := by omega
            have hE := HE.out
            rw [Nat.pow_zero, Nat.one_mul, List.drop_zero] at hE
            have hT := HT.out
            rw [List.drop_zero] at hT
            obtain ⟨e1, e2⟩ := div_end hK1 hE hT
            have HQT : Hid (trimL Q = blk (m / n)) := by rw [Hid, trimL_eq BB_two HQ.out, e1]; rfl
            obtain ⟨R, hR⟩ : ∃ z, (trimL L1).length = z := ⟨_, rfl⟩
            have hL1 := hu.1
            have hQ1 := hq.1
            have hRle := trimL_le L1
            have htr := trim_any (some ⟨g, 0, none⟩) cw L1 wr hu.row (by omega) (by omega)
            rw [hL1, hR] at htr
            have hu6 := hu.upto (k := R) (by omega)
            have htk : L1.take R = trimL L1 := by rw [← hR]; exact (trimL_take L1).symm
            rw [htk] at hu6
            have HR0 : Hid (∀ d ∈ trimL L1, d < BB) := trimL_mem HL1.out
            have HRV : Hid (valL BB (trimL L1) = K * (m % n)) := by rw [Hid, trimL_val, e2]
            have hRk : R ≤ k := by omega
            clear hE hT e1 e2 htk hRle HE HT HL1 hu hv
            generalize trimL L1 = R0 at *
            go_wp2_with (go_at_call 85; refine htr.mono ?_; rintro e wx ⟨rfl, rfl⟩)
            go_loopw [12, 75] (fun lf i wr' => ∃ (l0 i2 t : Nat) (L : List Nat), lf = .int .u64 l0 ∧ i = .int .i64 i2 ∧ i2 + t = R ∧ l0 < K ∧ MadeC w.heap.size g R cw L wr' ∧ MadeC w.heap.size gq i1 i1 Q wr' ∧ Below w.heap.size w wr' ∧ Hid (∀ d ∈ L, d < BB) ∧ Hid (L.take t = R0.take t) ∧ Hid (valL BB (R0.drop t) = K * valL BB (L.drop t) + l0)) (fun _ i _ => R - (intOf i).toNat)
            case atStart =>
              refine ⟨0, 0, R, R0, rfl, rfl, by omega, by omega, hu6, hq, hb, HR0, rfl, ?_⟩
              rw [Hid, List.drop_eq_nil_of_le (by omega)]; simp [valL]
            case round =>
              obtain ⟨l0, i2, t, L, rfl, rfl, hit, hl0, hu, hq', hb', HL, HTK, HE⟩ := hrel
              have hLR := hu.1
              clear hu6 hq hb
              by_cases hlt : i2 < R
              · obtain ⟨o, rfl⟩ : ∃ o, t = o + 1 := ⟨t - 1, by omega⟩
                have hsr := short_round (o := o) (by omega) HR0.out (by omega) (by omega) HTK.out hl0 HE.out
                have hcr := hu.cell (j := o) (by omega)
                have hfr := hu.frozen o
                have hxb := HL.out _ (List.getElem_mem (show o < L.length by omega))
                generalize L[o] = x at *
                obtain ⟨s, hs⟩ : ∃ z, l0 * BB + x = z := ⟨_, rfl⟩
                rw [hs] at hsr
                obtain ⟨sd, hsd⟩ : ∃ z, s / K = z := ⟨_, rfl⟩
                obtain ⟨sm, hsm⟩ : ∃ z, s % K = z := ⟨_, rfl⟩
                rw [hsd, hsm] at hsr
                obtain ⟨r1, r2, r3, r4⟩ := hsr
                have HR3 := Lib.hid r3
                have HR4 := Lib.hid r4
                have hxb' : x < 1000000000 := hxb
                have hKB' : K ≤ 1000000000 := hKB
                have hsv : l0 * 1000000000 + x = s := hs
                have w1 : IntKind.u64.wrap ((l0 : Int) * 1000000000) = (l0 : Int) * 1000000000 := by rw [IntKind.wrap_u64]; omega
                have hsi : (l0 : Int) * 1000000000 + (x : Int) = (s : Int) := by omega
                have w2 : IntKind.u64.wrap (s : Int) = (s : Int) := by rw [IntKind.wrap_u64]; omega
                have d1 : (s : Int) / (K : Int) = (sd : Int) := by rw [← hsd]; exact (Int.natCast_ediv s K).symm
                have d2 : (s : Int) % (K : Int) = (sm : Int) := by rw [← hsm]; exact (Int.natCast_emod s K).symm
                have d3 : (s : Int).tdiv (K : Int) = (sd : Int) := by rw [Int.tdiv_eq_ediv_of_nonneg (by omega)]; exact d1
                have d4 : (s : Int).tmod (K : Int) = (sm : Int) := by rw [Int.tmod_eq_emod_of_nonneg (by omega)]; exact d2
                have kne : ¬ (K : Int) = 0 := by omega
                have kne3 : ¬ K = 0 := by omega
                have kneb : ((K : Int) == 0) = false := beq_eq_false_iff_ne.2 (by omega)
                have r1' : sd < 1000000000 := r1
                have w3 : IntKind.u64.wrap (sd : Int) = (sd : Int) := by rw [IntKind.wrap_u64]; omega
                have w4 : IntKind.u64.wrap (sm : Int) = (sm : Int) := by rw [IntKind.wrap_u64]; omega
                have oi : (R : Int) - 1 - (i2 : Int) = (o : Int) := by omega
                have o0 : (0 : Int) ≤ (o : Int) := by omega
                have oR : (o : Int) < (R : Int) := by omega
                have hst := hu.store o sd
                have hstd : MadeC w.heap.size g R cw (L.set o sd) (wr.drew.setCell ⟨g, o, none⟩ (.int .u64 sd)) := hst
                have hqd : MadeC w.heap.size gq i1 i1 Q (wr.drew.setCell ⟨g, o, none⟩ (.int .u64 sd)) := hq'.kept (grown_store (grown_drew (grown_refl wr g)) o (.int .u64 sd)) (by simp; omega)
                have hq2 : MadeC w.heap.size gq i1 i1 Q (wr.setCell ⟨g, o, none⟩ (.int .u64 sd)) := hq'.kept (grown_store (grown_refl wr g) o (.int .u64 sd)) (by simp; omega)
                have hb2 : Below w.heap.size w (wr.setCell ⟨g, o, none⟩ (.int .u64 sd)) := hb'.setCell (p := ⟨g, o, none⟩) (by show w.heap.size ≤ g; omega) _
                have hbd : Below w.heap.size w (wr.drew.setCell ⟨g, o, none⟩ (.int .u64 sd)) := hb'.drew.setCell (p := ⟨g, o, none⟩) (by show w.heap.size ≤ g; omega) _
                have HSL := Lib.hid (set_lt (j := o) HL.out r1)
                clear hs hsd hsm r3 r4 hxb r1
                go_wp2_with fail
                go_region_held3 (fun w' => w'.frozen? ⟨g, o, none⟩ = false) (first | assumption | exact hfr | exact hst.frozen o) (fail)
                all_goals go_wp2_with fail
                all_goals go_roundw
                all_goals first
                  | (case rel => exact ⟨sm, i2 + 1, o, L.set o sd, rfl, by go_num, by omega, r2, hstd, hqd, hbd, HSL, HR3, HR4⟩)
                  | (case measure => simp [intOf]; omega)
              · obtain rfl : i2 = R := by omega
                obtain rfl : t = 0 := by omega
                have hE := HE.out
                rw [List.drop_zero, List.drop_zero, HRV.out] at hE
                have e1 := short_end (by omega) hE hl0
                have HLT2 : Hid (trimL L = blk (m % n)) := by rw [Hid, trimL_eq BB_two HL.out, e1]; rfl
                have hrq := hq'.row
                have hrr := hu.row
                have t1 := trim_any (some ⟨gq, 0, none⟩) i1 Q wr hrq (by omega) (by omega)
                have t2 := trim_any (some ⟨g, 0, none⟩) cw L wr hrr (by omega) (by omega)
                rw [hq'.1] at t1
                rw [hLR] at t2
                have l1 := trimL_le Q
                have l2 := trimL_le L
                have hr1 := hrq.take (trimL Q).length
                have hr2 := hrr.take (trimL L).length
                rw [← List.map_take, ← trimL_take] at hr1 hr2
                rw [HQT.out] at t1 l1 hr1
                rw [HLT2.out] at t2 l2 hr2
                clear hE e1 HE HTK hrq hrr
                go_wp2_with (first
                  | (go_at_call_of 85 (Value.slice (some ⟨gq, 0, none⟩) i1 i1); refine t1.mono ?_; rintro e wx ⟨rfl, rfl⟩)
                  | (go_at_call_of 85 (Value.slice (some ⟨g, 0, none⟩) i2 cw); refine t2.mono ?_; rintro e wx ⟨rfl, rfl⟩))
                go_returns
                exact ⟨_, _, _, _, rfl, by omega, by omega, hr1, hr2, hb'⟩
end Go.Proofs.YtfgmjdhoeilhcaaGreatDoor
