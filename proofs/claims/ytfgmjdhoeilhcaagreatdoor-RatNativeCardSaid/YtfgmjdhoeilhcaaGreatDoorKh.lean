/- Small fractions: what the operations of rat answer on them. -/
import Derived.Test.YtfgmjdhoeilhcaaGreatDoorKd
import Derived.Test.YtfgmjdhoeilhcaaGreatDoorKg
namespace Go.Proofs.YtfgmjdhoeilhcaaGreatDoor
open Go.RowKit
set_option linter.unusedVariables false

def Sm (z : Rat) : Prop := z.num.natAbs < 5000000000000000000 ∧ z.den < 5000000000000000000
theorem sm_mk (p : Int) {d : Nat} (hd : d ≠ 0) (h1 : p.natAbs < 5000000000000000000) (h2 : d < 5000000000000000000) : Sm (mkRat p d) := by
  unfold Sm
  rw [mkRat_abs p hd, mkRat_den p hd]
  exact ⟨Nat.lt_of_le_of_lt (Nat.div_le_self _ _) h1, Nat.lt_of_le_of_lt (Nat.div_le_self _ _) h2⟩
theorem sm_len {z : Rat} (h : Sm z) : (decT z.num.natAbs).length ≤ 19 ∧ (decT z.den).length ≤ 19 := ⟨(decT_length _ 19 (by omega)).2 (Nat.lt_of_lt_of_le h.1 (by decide)), (decT_length _ 19 (by omega)).2 (Nat.lt_of_lt_of_le h.2 (by decide))⟩
theorem sm_V {z : Rat} (h : Sm z) : ratV (ratT z) = some z := by
  have := sm_len h
  exact ratV_T (by omega) (by omega)
theorem sm_lim {z : Rat} (h : Sm z) : limR z = (ratT z, 0) := lim_some (sm_V h)
theorem nAdd {p q : Int} {m n : Nat} (hm : m ≠ 0) (hn : n ≠ 0) (hx : Sm (mkRat p m)) (hy : Sm (mkRat q n)) (hz : Sm (mkRat (p * n + q * m) (m * n))) :
    ratAdd (ratT (mkRat p m)) (ratT (mkRat q n)) = (ratT (mkRat (p * n + q * m) (m * n)), 0) := by
  unfold ratAdd ratOp
  rw [sm_V hx, sm_V hy]
  show limR (mkRat p m + mkRat q n) = _
  rw [Rat.mkRat_add_mkRat _ _ hm hn, sm_lim hz]
theorem sub_mk (p q : Int) {m n : Nat} (hm : m ≠ 0) (hn : n ≠ 0) : mkRat p m - mkRat q n = mkRat (p * n - q * m) (m * n) := by
  rw [Rat.sub_eq_add_neg, Rat.neg_mkRat, Rat.mkRat_add_mkRat _ _ hm hn, Int.neg_mul, Int.sub_eq_add_neg]
theorem nSub {p q : Int} {m n : Nat} (hm : m ≠ 0) (hn : n ≠ 0) (hx : Sm (mkRat p m)) (hy : Sm (mkRat q n)) (hz : Sm (mkRat (p * n - q * m) (m * n))) :
    ratSub (ratT (mkRat p m)) (ratT (mkRat q n)) = (ratT (mkRat (p * n - q * m) (m * n)), 0) := by
  unfold ratSub ratOp
  rw [sm_V hx, sm_V hy]
  show limR (mkRat p m - mkRat q n) = _
  rw [sub_mk _ _ hm hn, sm_lim hz]
theorem nMul {p q : Int} {m n : Nat} (hx : Sm (mkRat p m)) (hy : Sm (mkRat q n)) (hz : Sm (mkRat (p * q) (m * n))) :
    ratMul (ratT (mkRat p m)) (ratT (mkRat q n)) = (ratT (mkRat (p * q) (m * n)), 0) := by
  unfold ratMul ratOp
  rw [sm_V hx, sm_V hy]
  show limR (mkRat p m * mkRat q n) = _
  rw [Rat.mkRat_mul_mkRat, sm_lim hz]
theorem nDiv0 {p : Int} {m n : Nat} (hx : Sm (mkRat p m)) (hy : Sm (mkRat 0 n)) : ratDiv (ratT (mkRat p m)) (ratT (mkRat 0 n)) = ([], 4) := by
  unfold ratDiv ratOp
  rw [sm_V hx, sm_V hy]
  show (if mkRat 0 n = 0 then _ else _) = _
  rw [if_pos (Rat.zero_mkRat n)]
theorem div_mk {p q : Int} {m n k : Nat} (hm : m ≠ 0) (hn : n ≠ 0) (hk : k ≠ 0) (p' : Int) (hq : q ≠ 0) (h : p' * q * m = p * k * m) : mkRat p m / mkRat q n = mkRat (p' * n) (m * k) := by
  have hy : mkRat q n ≠ 0 := fun e => hq ((Rat.mkRat_eq_zero hn).1 e)
  have e : mkRat (p' * n) (m * k) * mkRat q n = mkRat p m := by
    rw [Rat.mkRat_mul_mkRat]
    refine (Rat.mkRat_eq_iff (Nat.mul_ne_zero (Nat.mul_ne_zero hm hk) hn) hm).2 ?_
    have : p' * (n : Int) * q * (m : Int) = (p' * q * m) * n := by
      rw [Int.mul_right_comm p' n q, Int.mul_right_comm (p' * q) n m]
    rw [this, h, Int.natCast_mul, Int.natCast_mul]
    rw [Int.mul_right_comm p k m, ← Int.mul_assoc, ← Int.mul_assoc]
  rw [← e, rat_mul_div hy]
theorem nDiv {p q : Int} {m n k : Nat} (hm : m ≠ 0) (hn : n ≠ 0) (hk : k ≠ 0) (p' : Int) (hq : q ≠ 0) (h : p' * q * m = p * k * m) (hx : Sm (mkRat p m)) (hy : Sm (mkRat q n)) (hz : Sm (mkRat (p' * n) (m * k))) :
    ratDiv (ratT (mkRat p m)) (ratT (mkRat q n)) = (ratT (mkRat (p' * n) (m * k)), 0) := by
  unfold ratDiv ratOp
  rw [sm_V hx, sm_V hy]
  show (if mkRat q n = 0 then _ else limR (mkRat p m / mkRat q n)) = _
  rw [if_neg (fun e => hq ((Rat.mkRat_eq_zero hn).1 e)), div_mk hm hn hk p' hq h, sm_lim hz]
theorem neg_iff (z : Rat) : z < 0 ↔ z.num < 0 := by
  have := Rat.num_nonneg (q := z)
  rw [← Rat.not_le, ← this]
  omega
theorem nCmp {p q : Int} {m n : Nat} (hm : m ≠ 0) (hn : n ≠ 0) (hx : Sm (mkRat p m)) (hy : Sm (mkRat q n)) :
    ratCmp (ratT (mkRat p m)) (ratT (mkRat q n)) = if p * n < q * m then -1 else if q * m < p * n then 1 else 0 := by
  unfold ratCmp
  rw [sm_V hx, sm_V hy]
  show (if mkRat p m = mkRat q n then 0 else if mkRat p m < mkRat q n then -1 else 1) = _
  have k1 : mkRat p m = mkRat q n ↔ p * n = q * m := Rat.mkRat_eq_iff hm hn
  have k2 : mkRat p m < mkRat q n ↔ p * n < q * m := by
    have h3 := Rat.add_lt_add_right (a := mkRat p m - mkRat q n) (b := 0) (c := mkRat q n)
    rw [Rat.sub_add_cancel, Rat.zero_add] at h3
    rw [h3, sub_mk _ _ hm hn, neg_iff, mkRat_neg _ (Nat.mul_ne_zero hm hn)]
    omega
  by_cases h1 : p * n = q * m
  · rw [if_pos (k1.2 h1), if_neg (by omega), if_neg (by omega)]
  · rw [if_neg (fun e => h1 (k1.1 e))]
    by_cases h2 : p * n < q * m
    · rw [if_pos (k2.2 h2), if_pos h2]
    · rw [if_neg (fun e => h2 (k2.1 e)), if_neg h2, if_pos (by omega)]
end Go.Proofs.YtfgmjdhoeilhcaaGreatDoor
