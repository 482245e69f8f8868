/- Plain: order, sign and division of integers. -/
import Derived.Test.YtkbgdiejjabdmaaDoorIntB
namespace Go.Proofs.YtkbgdiejjabdmaaDoor

theorem cmpZ_lt {x y : Int} (h : x < y) : cmpZ x y = -1 := by unfold cmpZ; rw [if_pos h]
theorem cmpZ_gt {x y : Int} (h : y < x) : cmpZ x y = 1 := by unfold cmpZ; rw [if_neg (by omega), if_pos h]
theorem cmpZ_eq {x y : Int} (h : x = y) : cmpZ x y = 0 := by subst h; unfold cmpZ; simp
theorem cmpZ_neg (x y : Int) : cmpZ y x = -cmpZ x y := by
  rcases Int.lt_trichotomy x y with h | h | h
  · rw [cmpZ_lt h, cmpZ_gt h]; rfl
  · rw [cmpZ_eq h, cmpZ_eq h.symm]; rfl
  · rw [cmpZ_gt h, cmpZ_lt h]
theorem cmpZ_rng (x y : Int) : -1 ≤ cmpZ x y ∧ cmpZ x y ≤ 1 := by
  unfold cmpZ; split
  · decide
  · split <;> decide
theorem cmpZ_zero (x y : Int) : (cmpZ x y == 0) = decide (x = y) := by
  rcases Int.lt_trichotomy x y with h | h | h
  · rw [cmpZ_lt h, decide_eq_false (by omega)]; rfl
  · rw [cmpZ_eq h, decide_eq_true h]; rfl
  · rw [cmpZ_gt h, decide_eq_false (by omega)]; rfl
theorem cmpZ_add (x y z : Int) : cmpZ (x + z) (y + z) = cmpZ x y := by
  rcases Int.lt_trichotomy x y with h | h | h
  · rw [cmpZ_lt h, cmpZ_lt (by omega)]
  · rw [cmpZ_eq h, cmpZ_eq (by omega)]
  · rw [cmpZ_gt h, cmpZ_gt (by omega)]
theorem cmpZ_sub (x y : Int) : (x - y).sign = cmpZ x y := by
  rcases Int.lt_trichotomy x y with h | h | h
  · rw [cmpZ_lt h]; exact Int.sign_eq_neg_one_of_neg (by omega)
  · rw [cmpZ_eq h, show x - y = 0 by omega]; rfl
  · rw [cmpZ_gt h]; exact Int.sign_eq_one_of_pos (by omega)
theorem cmpZ_mul (x y z : Int) : cmpZ (x * z) (y * z) = cmpZ x y * z.sign := by
  rw [← cmpZ_sub, ← cmpZ_sub, ← Int.sub_mul, Int.sign_mul]
theorem cmpZ_trans {x y z : Int} (h1 : cmpZ x y ≤ 0) (h2 : cmpZ y z ≤ 0) : ¬ 0 < cmpZ x z := by
  have a : x ≤ y := by
    rcases Int.lt_or_le y x with h | h
    · rw [cmpZ_gt h] at h1; omega
    · exact h
  have b : y ≤ z := by
    rcases Int.lt_or_le z y with h | h
    · rw [cmpZ_gt h] at h2; omega
    · exact h
  rcases Int.lt_or_le x z with h | h
  · rw [cmpZ_lt h]; decide
  · rw [cmpZ_eq (show x = z by omega)]; decide
theorem fmod_signs {a b : Int} (hb : b ≠ 0) (hr : a.fmod b ≠ 0) : (a.fmod b).sign = b.sign ∧ cmpZ (a.fmod b) b = -b.sign := by
  rcases Int.lt_or_lt_of_ne hb with h | h
  · have h1 := Int.neg_fmod_neg a b
    have h2 := Int.fmod_nonneg_of_pos (-a) (show 0 < -b by omega)
    have h3 := Int.fmod_lt_of_pos (-a) (show 0 < -b by omega)
    rw [h1] at h2 h3
    rw [Int.sign_eq_neg_one_of_neg h, Int.sign_eq_neg_one_of_neg (show a.fmod b < 0 by omega), cmpZ_gt (by omega)]
    exact ⟨rfl, rfl⟩
  · have h2 := Int.fmod_nonneg_of_pos a h
    have h3 := Int.fmod_lt_of_pos a h
    rw [Int.sign_eq_one_of_pos h, Int.sign_eq_one_of_pos (show 0 < a.fmod b by omega), cmpZ_lt h3]
    exact ⟨rfl, rfl⟩
theorem sign_rngZ (x : Int) : -1 ≤ x.sign ∧ x.sign ≤ 1 := by
  rcases Int.lt_trichotomy x 0 with h | h | h
  · rw [Int.sign_eq_neg_one_of_neg h]; decide
  · rw [h]; decide
  · rw [Int.sign_eq_one_of_pos h]; decide
theorem mul_rngZ {x y : Int} (hx : -1 ≤ x ∧ x ≤ 1) (hy : -1 ≤ y ∧ y ≤ 1) : -9223372036854775808 ≤ x * y ∧ x * y ≤ 9223372036854775807 := by
  rcases (show x = -1 ∨ x = 0 ∨ x = 1 by omega) with rfl | rfl | rfl <;> omega
end Go.Proofs.YtkbgdiejjabdmaaDoor
