/- Plain: rational numbers by numerator and denominator. -/
import Derived.Test.YtkbgdiejjabdmaaDoorIntD
namespace Go.Proofs.YtkbgdiejjabdmaaDoor
open Go.RowKit

theorem sgnd_natAbs (b : Bool) (n : Nat) : (sgnd b n).natAbs = n := by unfold sgnd; cases b <;> simp
theorem sgnd_zero (b : Bool) : sgnd b 0 = 0 := by unfold sgnd; cases b <;> simp
theorem mkRat_num (b : Bool) (n k : Nat) (hk : k ≠ 0) : (mkRat (sgnd b n) k).num = sgnd b (n / Nat.gcd n k) := by
  rw [Rat.num_mkRat, if_neg hk, sgnd_natAbs, Nat.gcd_comm]
  unfold sgnd
  cases b with
  | false => simp
  | true =>
    simp only [if_true]
    rw [Int.neg_ediv_of_dvd (Int.natCast_dvd_natCast.2 (Nat.gcd_dvd_left n k))]
    simp
theorem mkRat_den (b : Bool) (n k : Nat) (hk : k ≠ 0) : (mkRat (sgnd b n) k).den = k / Nat.gcd n k := by
  rw [Rat.den_mkRat, if_neg hk, sgnd_natAbs, Nat.gcd_comm]
theorem VQ.mk {w : World} {b : Nat} {x m d : Value} {q : Rat} {z : Int} {k L : Nat} (h1 : VZ w b (.agg #[x, m]) z L) (h2 : VN w b d k L) (hz : z = q.num) (hk : k = q.den) : VQ w b (.agg #[x, m, d]) q L := by
  subst hz; subst hk
  obtain ⟨m', he, h3⟩ := h1
  injection he with he
  have e1 : x = .bool (decide (q.num < 0)) := by have := congrArg (·[0]?) he; simpa using this
  have e2 : m = m' := by have := congrArg (·[1]?) he; simpa using this
  subst e1; subst e2
  exact ⟨m, d, rfl, h3, h2⟩
theorem VZ.zero' (w : World) (b L : Nat) : VZ w b (.agg #[.bool false, .slice none 0 0]) 0 L := ⟨_, rfl, VN.zero _ _ _ _ _⟩
theorem VQ.zero' {w : World} {b L : Nat} {d : Value} (h : VN w b d 1 L) : VQ w b (.agg #[.bool false, .slice none 0 0, d]) 0 L := VQ.mk (VZ.zero' w b L) h rfl rfl
theorem AN.form {w : World} {v : Value} {n L : Nat} (h : AN w v n L) : ∃ A l c, v = .slice A l c ∧ AN w (.slice A l c) n L := by
  obtain ⟨A, c, xs, rfl, h2⟩ := h
  exact ⟨A, _, c, rfl, A, c, xs, rfl, h2⟩
theorem VN.form {w : World} {b : Nat} {v : Value} {n L : Nat} (h : VN w b v n L) : ∃ A l c, v = .slice A l c ∧ VN w b (.slice A l c) n L := by
  obtain ⟨A, c, rfl, h2⟩ := h
  exact ⟨A, _, c, rfl, A, c, rfl, h2⟩
def cmpQ (p q : Rat) : Int := if p < q then -1 else if q < p then 1 else 0
theorem mkRat_lt (z1 z2 : Int) (k1 k2 : Nat) (h1 : 0 < k1) (h2 : 0 < k2) : mkRat z1 k1 < mkRat z2 k2 ↔ z1 * k2 < z2 * k1 := by
  rw [← Rat.not_le, Rat.le_iff_sub_nonneg]
  have e : mkRat z1 k1 - mkRat z2 k2 = mkRat (z1 * k2 - z2 * k1) (k1 * k2) := by
    rw [Rat.sub_eq_add_neg, Rat.neg_mkRat, Rat.mkRat_add_mkRat _ _ (by omega) (by omega)]
    congr 1
    rw [Int.neg_mul]; omega
  rw [e, ← Rat.divInt_ofNat, Rat.divInt_nonneg_iff_of_pos_right (by have := Nat.mul_pos h1 h2; omega)]
  omega
theorem cmpQ_mk (z1 z2 : Int) (k1 k2 : Nat) (h1 : 0 < k1) (h2 : 0 < k2) : cmpQ (mkRat z1 k1) (mkRat z2 k2) = cmpZ (z1 * k2) (z2 * k1) := by
  unfold cmpQ cmpZ
  simp only [mkRat_lt _ _ _ _ h1 h2, mkRat_lt _ _ _ _ h2 h1]
theorem mkRat_sub' (z1 z2 : Int) (k1 k2 : Nat) (h1 : 0 < k1) (h2 : 0 < k2) : mkRat z1 k1 - mkRat z2 k2 = mkRat (z1 * k2 - z2 * k1) (k1 * k2) := by
  rw [Rat.sub_eq_add_neg, Rat.neg_mkRat, Rat.mkRat_add_mkRat _ _ (by omega) (by omega)]
  congr 1
  rw [Int.neg_mul]; omega
theorem mkRat_floor (z : Int) (k : Nat) (hk : 0 < k) : (mkRat z k).floor = z.fdiv k := by
  rw [Rat.floor_def, Int.fdiv_eq_ediv_of_nonneg _ (by omega)]
  obtain ⟨m, hm, h1, h2⟩ := Rat.mkRat_num_den (n := z) (d := k) (n' := (mkRat z k).num) (d' := (mkRat z k).den) (z' := (mkRat z k).den_nz) (c := (mkRat z k).reduced) (by omega) rfl
  generalize (mkRat z k).num = n' at *
  generalize (mkRat z k).den = d' at *
  subst h1; subst h2
  rw [Int.natCast_mul, Int.mul_ediv_mul_of_pos_left _ _ (by omega)]
theorem mkRat_sign (z : Int) (k : Nat) (hk : 0 < k) : (mkRat z k).num.sign = z.sign := by
  obtain ⟨m, hm, h1, h2⟩ := Rat.mkRat_num_den (n := z) (d := k) (n' := (mkRat z k).num) (d' := (mkRat z k).den) (z' := (mkRat z k).den_nz) (c := (mkRat z k).reduced) (by omega) rfl
  generalize (mkRat z k).num = n' at *
  rw [h1, Int.sign_mul, Int.sign_eq_one_of_pos (a := (m : Int)) (by omega), Int.mul_one]
theorem mkRat_div' (z1 z2 : Int) (k1 k2 : Nat) : mkRat z1 k1 / mkRat z2 k2 = Rat.divInt (z1 * k2) (k1 * z2) := by
  rw [Rat.div_def, ← Rat.divInt_ofNat z2, Rat.inv_divInt, ← Rat.divInt_ofNat, Rat.divInt_mul_divInt]
end Go.Proofs.YtkbgdiejjabdmaaDoor
