/- Plain: floored division by signs and magnitudes. -/
import Derived.Test.YtkbgdiejjabdmaaDoorIntB
namespace Go.Proofs.YtkbgdiejjabdmaaDoor
open Go.RowKit
theorem fd_pos (x : Int) (n : Nat) (q r : Int) (hn : 0 < n) (h : x = n * q + r) (h0 : 0 ≤ r) (h1 : r < n) : x.fdiv n = q ∧ x.fmod n = r := by
  rw [Int.fdiv_eq_ediv_of_nonneg _ (by omega), Int.fmod_eq_emod_of_nonneg _ (by omega)]
  exact (Int.ediv_emod_unique (by omega)).2 ⟨by omega, h0, h1⟩
theorem fd_neg (x : Int) (n : Nat) (q r : Int) (hn : 0 < n) (h : x = -(n * q + r)) (h0 : 0 ≤ r) (h1 : r < n) : x.fdiv (-n) = q ∧ x.fmod (-n) = -r := by
  have := fd_pos (-x) n q r hn (by omega) h0 h1
  rw [← Int.neg_neg x, Int.neg_fdiv_neg, Int.fmod_def, Int.neg_fdiv_neg, this.1]
  refine ⟨rfl, ?_⟩
  rw [Int.neg_neg, h, Int.neg_mul]
  omega
theorem dmA (neg1 neg2 : Bool) (n1 n2 : Nat) (x y s1 s2 : Int) (hn : 0 < n2) (hx : x = sgnd neg1 n1) (hy : y = sgnd neg2 n2) (h1 : s1 = x.sign) (h2 : s2 = y.sign) (hc : (s1 < 0 ↔ s2 < 0) ∨ n1 % n2 = 0) :
    x.fdiv y = sgnd (decide (s1 * s2 < 0)) (n1 / n2) ∧ x.fmod y = sgnd neg2 (n1 % n2) := by
  have e := Nat.div_add_mod n1 n2
  have hr := Nat.mod_lt n1 hn
  have hq0 : n1 = 0 → n1 / n2 = 0 := fun h => by rw [h, Nat.zero_div]
  rw [hx, sign_of] at h1
  rw [hy, sign_of, if_neg (by omega)] at h2
  have e2 : (n1 : Int) = n2 * (n1 / n2 : Nat) + (n1 % n2 : Nat) := by rw [← Int.natCast_mul, ← Int.natCast_add, e]
  generalize n1 / n2 = q at *
  generalize n1 % n2 = r at *
  subst hx; subst hy
  unfold sgnd
  cases neg2 with
  | false =>
    simp only [Bool.false_eq_true, if_false] at h2 ⊢
    subst h2
    cases neg1 with
    | false =>
      have hs : decide (s1 * 1 < 0) = false := by
        rw [decide_eq_false_iff_not, h1]
        split <;> simp
      rw [hs]
      exact fd_pos _ _ _ _ hn e2 (by omega) (by omega)
    | true =>
      by_cases h0 : n1 = 0
      · have := hq0 h0
        subst this
        have hr0 : r = 0 := by rw [h0] at e2; simp at e2; omega
        subst hr0
        subst h0
        simp
      · rw [if_neg h0] at h1
        simp only [if_true] at h1 ⊢
        subst h1
        have hr0 : r = 0 := by rcases hc with h | h <;> omega
        subst hr0
        exact fd_pos _ _ _ _ hn (by rw [e2]; simp [Int.mul_neg]) (by omega) (by omega)
  | true =>
    simp only [if_true] at h2 ⊢
    subst h2
    by_cases h0 : n1 = 0
    · have := hq0 h0
      subst this
      have hr0 : r = 0 := by rw [h0] at e2; simp at e2; omega
      subst hr0
      subst h0
      simp
    · rw [if_neg h0] at h1
      cases neg1 with
      | true =>
        simp only [if_true] at h1 ⊢
        subst h1
        exact fd_neg _ _ _ _ hn (by rw [e2]; simp) (by omega) (by omega)
      | false =>
        simp only [Bool.false_eq_true, if_false] at h1 ⊢
        subst h1
        have hr0 : r = 0 := by rcases hc with h | h <;> omega
        subst hr0
        exact fd_neg _ _ _ _ hn (by rw [e2]; simp [Int.mul_neg]) (by omega) (by omega)
theorem dmB (neg1 neg2 : Bool) (n1 n2 : Nat) (x y s1 s2 : Int) (hn : 0 < n2) (hx : x = sgnd neg1 n1) (hy : y = sgnd neg2 n2) (h1 : s1 = x.sign) (h2 : s2 = y.sign) (hc : ¬ (s1 < 0 ↔ s2 < 0)) (hr0 : n1 % n2 ≠ 0) :
    x.fdiv y = sgnd true (n1 / n2 + 1) ∧ x.fmod y = sgnd neg2 (n2 - n1 % n2) := by
  have e := Nat.div_add_mod n1 n2
  have hr := Nat.mod_lt n1 hn
  have h0 : n1 ≠ 0 := fun h => by rw [h, Nat.zero_mod] at hr0; exact hr0 rfl
  rw [hx, sign_of, if_neg h0] at h1
  rw [hy, sign_of, if_neg (by omega)] at h2
  have e2 : (n1 : Int) = n2 * (n1 / n2 : Nat) + (n1 % n2 : Nat) := by rw [← Int.natCast_mul, ← Int.natCast_add, e]
  generalize n1 / n2 = q at *
  generalize n1 % n2 = r at *
  subst hx; subst hy
  have e3 : (n2 : Int) * -((q + 1 : Nat) : Int) = -(n2 * q) - n2 := by rw [Int.mul_neg, Int.natCast_add, Int.mul_add]; simp; omega
  unfold sgnd
  cases neg2 with
  | false =>
    cases neg1 with
    | false => simp at h1 h2; omega
    | true =>
      simp only [if_true, Bool.false_eq_true, if_false]
      exact fd_pos _ _ _ _ hn (by rw [e2, e3]; omega) (by omega) (by omega)
  | true =>
    cases neg1 with
    | true => simp at h1 h2; omega
    | false =>
      simp only [if_true, Bool.false_eq_true, if_false]
      exact fd_neg _ _ _ _ hn (by rw [e2, e3]; omega) (by omega) (by omega)
end Go.Proofs.YtkbgdiejjabdmaaDoor
