/- Plain: multiplying limb by limb. -/
import Derived.Test.YtkbgdiejjabdmaaAddP
namespace Go.Proofs.Ytkbgdiejjabdmaa

theorem mul_step {P Bi Bk p q D c lo hi V V' b vy : Nat} (hP : P = Bi * Bk) (ht : lo + 4294967296 * hi = c + (p * q + D)) (h1 : V' + P * D = V + P * lo) (h2 : V + P * c = b + Bi * p * vy) : V' + P * 4294967296 * hi = b + Bi * p * (vy + Bk * q) := by
  have h3 : P * (lo + 4294967296 * hi) = P * (c + (p * q + D)) := by rw [ht]
  have h4 : P * lo + P * 4294967296 * hi = P * c + P * (p * q) + P * D := by grind
  have h5 : Bi * p * (vy + Bk * q) = Bi * p * vy + P * (p * q) := by subst hP; grind
  omega
structure MulO (x y : List Int) (i : Nat) (d : List Int) : Prop where
  len : d.length = x.length + y.length
  lim : Lim d
  eq : val d = val (x.take i) * val y
  zero : ∀ j, i + y.length ≤ j → d.getD j 0 = 0
structure MulI (x y : List Int) (i k : Nat) (d : List Int) (c : Int) : Prop where
  len : d.length = x.length + y.length
  lim : Lim d
  lo : 0 ≤ c
  hi : c ≤ 4294967295
  eq : val d + 4294967296 ^ (i + k) * c.toNat = val (x.take i) * val y + 4294967296 ^ i * (x.getD i 0).toNat * val (y.take k)
  zero : ∀ j, i + y.length ≤ j → d.getD j 0 = 0
theorem MulO.start (x y : List Int) : MulO x y 0 (List.replicate (x.length + y.length) 0) := ⟨by simp, Lim.replicate _, by simp [val, val_replicate], fun j _ => by
  rw [List.getD_eq_getElem?_getD, List.getElem?_replicate]
  split <;> rfl⟩
theorem MulI.start {x y d : List Int} {i : Nat} (h : MulO x y i d) : MulI x y i 0 d 0 := ⟨h.len, h.lim, by omega, by omega, by simp [h.eq, val], h.zero⟩
theorem getD_set_ne' {d : List Int} {i j : Nat} {z : Int} (h : i ≠ j) : (d.set i z).getD j 0 = d.getD j 0 := by
  rw [List.getD_eq_getElem?_getD, List.getD_eq_getElem?_getD, List.getElem?_set_ne h]
theorem mul_bound {p q : Int} (hp0 : 0 ≤ p) (hp1 : p ≤ 4294967295) (hq0 : 0 ≤ q) (hq1 : q ≤ 4294967295) : 0 ≤ p * q ∧ p * q ≤ 18446744065119617025 := by
  refine ⟨Int.mul_nonneg hp0 hq0, ?_⟩
  have h1 : p * q ≤ 4294967295 * q := Int.mul_le_mul_of_nonneg_right hp1 hq0
  omega
theorem MulI.next {x y d : List Int} {i k : Nat} {c t : Int} (h : MulI x y i k d c) (hx : Lim x) (hy : Lim y) (hi : i < x.length) (hk : k < y.length) (ht : t = c + (x.getD i 0 * y.getD k 0 + d.getD (i + k) 0)) :
    MulI x y i (k + 1) (d.set (i + k) (t % 4294967296)) (t / 4294967296) := by
  have p := hx.get i
  have q := hy.get k
  have D := h.lim.get (i + k)
  have b := mul_bound p.1 p.2 q.1 q.2
  have c0 := h.lo
  have c1 := h.hi
  refine ⟨by simp [h.len], h.lim.set _ (by omega) (by omega), by omega, by omega, ?_, fun j hj => by rw [getD_set_ne' (by omega)]; exact h.zero j hj⟩
  have h1 := val_set d (i + k) (t % 4294967296) (by rw [h.len]; omega)
  have h2 := h.eq
  have hpq : (x.getD i 0 * y.getD k 0).toNat = (x.getD i 0).toNat * (y.getD k 0).toNat := Int.toNat_mul p.1 q.1
  have h3 : (t % 4294967296).toNat + 4294967296 * (t / 4294967296).toNat = c.toNat + ((x.getD i 0).toNat * (y.getD k 0).toNat + (d.getD (i + k) 0).toNat) := by
    rw [← hpq]; omega
  have h4 := mul_step (Nat.pow_add 4294967296 i k) h3 h1 h2
  rw [val_take_succ' y, show i + (k + 1) = i + k + 1 by omega, Nat.pow_succ]
  exact h4
theorem MulI.done {x y d : List Int} {i : Nat} {c : Int} (h : MulI x y i y.length d c) (hi : i < x.length) : MulO x y (i + 1) (d.set (i + y.length) c) := by
  refine ⟨by simp [h.len], h.lim.set _ h.lo h.hi, ?_, fun j hj => by rw [getD_set_ne' (by omega)]; exact h.zero j (by omega)⟩
  have h1 := val_set d (i + y.length) c (by rw [h.len]; omega)
  have h2 := h.eq
  rw [h.zero (i + y.length) (Nat.le_refl _)] at h1
  rw [List.take_length] at h2
  rw [val_take_succ' x, Nat.add_mul]
  simp at h1
  omega
theorem MulO.done {x y d : List Int} (h : MulO x y x.length d) : val d = val x * val y := by
  rw [h.eq, List.take_length]
theorem limbs_mul_len (m n : Nat) {L K : Nat} (h1 : (limbs m).length ≤ L) (h2 : (limbs n).length ≤ K) : (limbs (m * n)).length ≤ L + K := by
  have h3 := val_lt (limbs_lim m)
  have h4 := val_lt (limbs_lim n)
  rw [val_limbs] at h3 h4
  have h5 : (4294967296 : Nat) ^ (limbs m).length ≤ 4294967296 ^ L := Nat.pow_le_pow_right (by decide) h1
  have h6 : (4294967296 : Nat) ^ (limbs n).length ≤ 4294967296 ^ K := Nat.pow_le_pow_right (by decide) h2
  refine limbs_length_le ?_
  rw [Nat.pow_add]
  have h7 : 0 < (4294967296 : Nat) ^ K := Nat.pow_pos (by decide)
  have h8 : m * n ≤ m * 4294967296 ^ K := Nat.mul_le_mul_left _ (by omega)
  have h9 : (m + 1) * 4294967296 ^ K ≤ 4294967296 ^ L * 4294967296 ^ K := Nat.mul_le_mul_right _ (by omega)
  rw [Nat.add_mul] at h9
  omega
end Go.Proofs.Ytkbgdiejjabdmaa
