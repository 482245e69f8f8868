/- Plain: rational numbers as an ordered field, by the reference order cmpQ. -/
import Derived.Test.YtkbgdiejjabdmaaRatF
namespace Go.Proofs.Ytkbgdiejjabdmaa

theorem q_mul_sign (p q : Rat) : (p * q).num.sign = p.num.sign * q.num.sign := by
  rw [← Rat.mkRat_self p, ← Rat.mkRat_self q, Rat.mkRat_mul_mkRat, mkRat_sign _ _ (Nat.mul_pos p.den_pos q.den_pos), mkRat_sign _ _ p.den_pos, mkRat_sign _ _ q.den_pos, Int.sign_mul]
theorem cmpQ_sign (p q : Rat) : cmpQ p q = (p - q).num.sign := by
  have h : cmpQ p q = cmpZ (p.num * q.den) (q.num * p.den) := by
    have := cmpQ_mk p.num q.num p.den q.den p.den_pos q.den_pos
    rwa [Rat.mkRat_self, Rat.mkRat_self] at this
  have h2 : (p - q).num.sign = (p.num * q.den - q.num * p.den).sign := by
    have := mkRat_sub' p.num q.num p.den q.den p.den_pos q.den_pos
    rw [Rat.mkRat_self, Rat.mkRat_self] at this
    rw [this, mkRat_sign _ _ (Nat.mul_pos p.den_pos q.den_pos)]
  rw [h, h2]
  unfold cmpZ
  generalize p.num * (q.den : Int) = x
  generalize q.num * (p.den : Int) = y
  split
  · exact (Int.sign_eq_neg_one_of_neg (by omega)).symm
  · split
    · exact (Int.sign_eq_one_of_pos (by omega)).symm
    · rw [show x - y = 0 by omega]; rfl
theorem cmpQ_zero (p q : Rat) : cmpQ p q = 0 ↔ p = q := by
  rw [cmpQ_sign, Int.sign_eq_zero_iff_zero, Rat.num_eq_zero]
  constructor
  · intro h
    have : p - q + q = 0 + q := by rw [h]
    rwa [Rat.sub_add_cancel, Rat.zero_add] at this
  · rintro rfl; exact Rat.sub_self
theorem cmpQ_neg (p q : Rat) : cmpQ p q = -cmpQ q p := by
  rw [cmpQ_sign, cmpQ_sign, ← Int.sign_neg, ← Rat.neg_num]
  congr 2
  grind
theorem cmpQ_add (p q r : Rat) : cmpQ (p + r) (q + r) = cmpQ p q := by
  rw [cmpQ_sign, cmpQ_sign]
  congr 2
  grind
theorem cmpQ_mul (p q r : Rat) : cmpQ (p * r) (q * r) = cmpQ p q * r.num.sign := by
  rw [cmpQ_sign, cmpQ_sign, ← q_mul_sign]
  congr 2
  grind
theorem divInt_one' (n : Int) : Rat.divInt n 1 = (n : Rat) := Rat.mkRat_self ((n : Int) : Rat)
theorem cmpQ_floor (q : Rat) : ¬ (0 < cmpQ (Rat.divInt q.floor 1) q) := by
  have h : (q.floor : Rat) ≤ q := Rat.floor_le q
  rw [divInt_one']
  unfold cmpQ
  rw [← Rat.not_lt] at h
  split
  · omega
  · omega
theorem cmpQ_floor1 (q : Rat) : cmpQ q (Rat.divInt (q.floor + 1) 1) < 0 := by
  have h : q < ((q.floor + 1 : Int) : Rat) := Rat.lt_floor_add_one q
  rw [divInt_one']
  unfold cmpQ
  rw [if_pos h]; omega
end Go.Proofs.Ytkbgdiejjabdmaa
