/- Walks: blocks of a text; sums block by block. -/
import Derived.Test.YtfgmjdhoeilhcaaGreatDoorRw
namespace Go.Proofs.YtfgmjdhoeilhcaaGreatDoor
open Go.RowKit
set_option linter.unusedVariables false

theorem u64Info : (Tryz.prog.info? 89).map (fun i => (i.zero, i.size, i.bytes)) = some (some (.int .u64 0), 1, 8) := by kernel_rfl
theorem U_snoc (L : List Nat) (n : Nat) : L.map U ++ [.int .u64 n] = (L ++ [n]).map U := by rw [List.map_append]; rfl
theorem dig_bytes {t : ByteArray} (h : ∀ c ∈ t.data.toList, isDig c = true) {k : Nat} (hk : k < t.size) : isDig t[k] = true :=
  h _ (by
    have := drop_byte t k hk
    exact List.mem_of_mem_drop (i := k) (by rw [this]; exact List.mem_cons_self))
/-- the digits from cut on, one more -/
theorem decV_more {t : ByteArray} {cut k : Nat} (h1 : cut ≤ k) (h2 : k < t.size) : decV ((t.data.toList.drop cut).take (k + 1 - cut)) = 10 * decV ((t.data.toList.drop cut).take (k - cut)) + dv t[k] := by
  have hlen : k - cut < (t.data.toList.drop cut).length := by rw [List.length_drop, ← Lib.size_eq]; omega
  have e : k + 1 - cut = (k - cut) + 1 := by omega
  rw [e, List.take_succ_eq_append_getElem hlen, decV_snoc]
  congr 2
  rw [List.getElem_drop]
  have := drop_byte t k h2
  have h3 : k < t.data.toList.length := by rw [← Lib.size_eq]; exact h2
  rw [List.drop_eq_getElem_cons h3] at this
  injection this with h4 _
  rw [← h4]
  congr 1; omega
theorem decV_small {t : ByteArray} {cut k : Nat} (h : ∀ c ∈ t.data.toList, isDig c = true) (h9 : k - cut ≤ 9) : decV ((t.data.toList.drop cut).take (k - cut)) < 1000000000 := by
  have := decV_lt (l := (t.data.toList.drop cut).take (k - cut)) fun c hc => h c (List.mem_of_mem_drop (List.mem_of_mem_take hc))
  have h2 : 10 ^ ((t.data.toList.drop cut).take (k - cut)).length ≤ 10 ^ 9 := Nat.pow_le_pow_right (by omega) (by rw [List.length_take]; omega)
  have : (10 : Nat) ^ 9 = 1000000000 := rfl
  omega

set_option maxHeartbeats 1000000 in
set_option maxRecDepth 100000 in
theorem blocks_any (s : ByteArray) (w : World) (hd : ∀ c ∈ s.data.toList, isDig c = true) (hs : s.size ≤ 10000) :
    Calls Tryz.prog 83 #[.string s] w (BlkPost w (blk (decV s.data.toList))) := by
  obtain ⟨i0, hi, hz0, hz1, hz2⟩ := info_parts u64Info
  go_enter Tryz.func83, Tryz.ntmps83
  go_wp2_with fail
  go_loopw [0, 3] (fun v u wr => ∃ (t : ByteArray) (L : List Nat), v = .string t ∧ Own w.heap.size 89 u (L.map U) wr ∧ L.length + t.size ≤ s.size ∧ Below w.heap.size w wr ∧ Hid (∀ c ∈ t.data.toList, isDig c = true) ∧ Hid (decV s.data.toList = valL BB L + BB ^ L.length * decV t.data.toList) ∧ Hid (∀ d ∈ L, d < BB)) (fun v _ _ => strLen v)
  case atStart => exact ⟨s, [], rfl, Own.nil _ _ _, by simp, Below.refl _ _, hd, by simp [Hid, valL], by simp [Hid]⟩
  case round =>
    obtain ⟨t, L, rfl, hown, hl, hb, HT, HV, HL⟩ := hrel
    by_cases h0 : t.size = 0
    · obtain ⟨A, c, rfl, hc, hr⟩ := hown.row.to (n := L.length) (by simp)
      have HK : Hid (trimL L = blk (decV s.data.toList)) := by
        rw [Hid, trimL_eq BB_two HL.out, HV.out, data_nil h0, decV_nil]; rfl
      have ht := trim_any A c L wr hr (by omega) hc
      have hle := trimL_le L
      have HR := Lib.hid (hr.take (trimL L).length)
      have HTK := Lib.hid (trimL_take L)
      rw [HK.out] at ht hle
      clear hr hown
      go_wp2_with (go_at_call 85; refine ht.mono ?_; rintro e wx ⟨rfl, rfl⟩)
      go_returns
      refine ⟨A, c, rfl, by omega, ?_, hb⟩
      have h1 := HR.out
      rw [← List.map_take, ← HTK.out, HK.out] at h1
      exact h1
    · obtain ⟨cut, hcut⟩ : ∃ cut, t.size - 9 = cut := ⟨_, rfl⟩
      have hmx : max (0 : Int) ((t.size : Int) - 9) = (cut : Int) := by omega
      have hpos : 0 < t.size := by omega
      go_wp2_with fail
      go_loopw [5, 6] (fun n i wr' => ∃ (k : Nat), i = .int .i64 k ∧ cut ≤ k ∧ k ≤ t.size ∧ n = .int .u64 (decV ((t.data.toList.drop cut).take (k - cut))) ∧ wr' = wr) (fun _ i _ => t.size - (intOf i).toNat)
      case atStart => exact ⟨cut, rfl, by omega, by omega, by simp [decV_nil], rfl⟩
      case round =>
        obtain ⟨k, rfl, hk1, hk2, rfl, rfl⟩ := hrel
        by_cases hlt : k < t.size
        · have hdg := dig_bytes HT.out hlt
          rw [isDig_iff] at hdg
          have HM := Lib.hid (decV_more hk1 hlt)
          have hsm := decV_small HT.out (cut := cut) (k := k) (by omega)
          obtain ⟨n, hn⟩ : ∃ n, decV ((t.data.toList.drop cut).take (k - cut)) = n := ⟨_, rfl⟩
          obtain ⟨x, hx⟩ : ∃ x, t[k].toNat = x := ⟨_, rfl⟩
          have HM2 : Hid (decV ((t.data.toList.drop cut).take (k + 1 - cut)) = 10 * n + (x - 48)) := by rw [Hid, HM.out, hn]; unfold dv; rw [hx]
          rw [hn] at hsm ⊢
          rw [hx] at hdg
          obtain ⟨hd1, hd2⟩ := hdg
          clear hn
          go_wp2_with fail
          go_roundw
          case rel => exact ⟨k + 1, by go_num, by omega, by omega, by rw [HM2.out]; go_num, trivial⟩
          case measure => simp [intOf]; omega
        · obtain rfl : k = t.size := by omega
          have hlen : t.data.toList.length = t.size := (Lib.size_eq t).symm
          have hne : t.data.toList ≠ [] := data_ne h0
          have HB := Lib.hid (blocks_step HT.out HV.out HL.out hne)
          rw [hlen, hcut] at HB
          have hfull : (t.data.toList.drop cut).take (t.size - cut) = t.data.toList.drop cut := List.take_of_length_le (by rw [List.length_drop, hlen]; exact Nat.le_refl _)
          rw [hfull]
          have hml : (L.map U).length + 1 ≤ maxLen := by rw [List.length_map]; unfold maxLen; omega
          have hmb : ((L.map U).length + 1) * 8 ≤ 140737488355328 := by rw [List.length_map]; omega
          have hxs : (t.extract 0 cut).size = cut := by rw [Lib.size_eq, ext_data]; simp; omega
          have hxd : (t.extract 0 cut).data.toList = t.data.toList.take cut := by rw [ext_data, List.drop_zero, Nat.sub_zero]
          have HXS := Lib.hid hxs
          have HXD := Lib.hid hxd
          obtain ⟨n, hn⟩ : ∃ n, decV (t.data.toList.drop cut) = n := ⟨_, rfl⟩
          rw [hn] at HB ⊢
          have hc1 : (cut : Int) ≤ (t.size : Int) := by omega
          clear hxs hxd hfull hlen hne hn
          go_wp2_with (at_builtin; refine wpList_app1 rfl (.tmp 29) (.tmp 31) 87 rfl w.heap.size i0 _ 8 Tryz.underlying87 hi hz0 hz1 hz2 rfl _ (L.map U) rfl hown 1 rfl rfl hml hmb hb.size ?_; intro v' w3 hown4 _ hb4)
          go_roundw
          case rel => exact ⟨t.extract 0 cut, L ++ [n], rfl, by rw [← U_snoc]; exact hown4, by rw [HXS.out, List.length_append, List.length_singleton]; omega, hb.trans hb4, by rw [HXD.out]; exact HB.out.2.2, by rw [HXD.out]; exact HB.out.1, HB.out.2.1⟩
          case measure => simp only [strLen]; rw [HXS.out]; omega
end Go.Proofs.YtfgmjdhoeilhcaaGreatDoor
