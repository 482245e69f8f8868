/- Plain: taking a digit times the divisor from a part of a row, and putting the divisor back. -/
import Derived.Test.YtkbgdiejjabdmaaGuessP
namespace Go.Proofs.Ytkbgdiejjabdmaa

theorem sb_step {P V V' E z b b' lo c c' m V0 S : Nat} (h1 : V' + P * E = V + P * z) (h2 : E + 4294967296 * b' = z + b + lo) (h3 : lo + 4294967296 * c' = c + m) (h4 : V + S = V0 + P * (b + c)) : V' + (S + P * m) = V0 + P * 4294967296 * (b' + c') := by
  have e1 : P * (E + 4294967296 * b') = P * (z + b + lo) := by rw [h2]
  have e2 : P * (lo + 4294967296 * c') = P * (c + m) := by rw [h3]
  have e3 : P * 4294967296 * (b' + c') = P * (4294967296 * b') + P * (4294967296 * c') := by grind
  simp only [Nat.mul_add] at e1 e2 h4
  omega
theorem drop_set_at (D : List Int) (j k : Nat) (z : Int) : (D.set (j + k) z).drop j = (D.drop j).set k z := by
  rw [List.drop_set, if_neg (by omega), Nat.add_sub_cancel_left]
theorem getD_drop (D : List Int) (j k : Nat) : (D.drop j).getD k 0 = D.getD (j + k) 0 := by
  rw [List.getD_eq_getElem?_getD, List.getD_eq_getElem?_getD, List.getElem?_drop]
structure SbS (D0 y : List Int) (j : Nat) (dg : Int) (k : Nat) (D : List Int) (b c : Int) : Prop where
  len : D.length = D0.length
  lim : Lim D
  take : D.take j = D0.take j
  far : ∀ i, j + y.length < i → D.getD i 0 = D0.getD i 0
  b0 : 0 ≤ b
  b1 : b ≤ 1
  c0 : 0 ≤ c
  c1 : c ≤ 4294967295
  eq : val (D.drop j) + dg.toNat * val (y.take k) = val (D0.drop j) + 4294967296 ^ k * (b.toNat + c.toNat)
theorem SbS.start {D0 : List Int} (y : List Int) (j : Nat) (dg : Int) (h : Lim D0) : SbS D0 y j dg 0 D0 0 0 := ⟨rfl, h, rfl, fun _ _ => rfl, by omega, by omega, by omega, by omega, by simp [val]⟩
theorem SbS.next {D0 y D : List Int} {j k : Nat} {dg b c t z b' : Int} (h : SbS D0 y j dg k D b c) (hy : Lim y) (hk : k < y.length) (hj : j + y.length < D0.length) (g0 : 0 ≤ dg) (g1 : dg ≤ 4294967295) (ht : t = c + dg * y.getD k 0)
    (hz : D.getD (j + k) 0 + 4294967296 * b' = z + b + t % 4294967296) (z0 : 0 ≤ z) (z1 : z ≤ 4294967295) (l0 : 0 ≤ b') (l1 : b' ≤ 1) : SbS D0 y j dg (k + 1) (D.set (j + k) z) b' (t / 4294967296) := by
  have q := hy.get k
  have D1 := h.lim.get (j + k)
  obtain ⟨m0, m1⟩ := mul_bound g0 g1 q.1 q.2
  have c0 := h.c0
  have c1 := h.c1
  have b0 := h.b0
  have b1 := h.b1
  refine ⟨by simp [h.len], h.lim.set _ z0 z1, ?_, fun i hi => by rw [getD_set_ne' (by omega)]; exact h.far i hi, l0, l1, by omega, by omega, ?_⟩
  · rw [List.take_set_of_le (by omega)]; exact h.take
  · rw [drop_set_at, val_take_succ' y, Nat.pow_succ]
    have h1 := val_set (D.drop j) k z (by rw [List.length_drop, h.len]; omega)
    rw [getD_drop] at h1
    have e : (dg * y.getD k 0).toNat = dg.toNat * (y.getD k 0).toNat := Int.toNat_mul g0 q.1
    have := sb_step (b' := b'.toNat) (lo := (t % 4294967296).toNat) (c' := (t / 4294967296).toNat) (m := (dg * y.getD k 0).toNat) h1 (b := b.toNat) (by omega) (c := c.toNat) (by omega) h.eq
    rw [e] at this
    rw [Nat.mul_add, ← Nat.mul_assoc dg.toNat, Nat.mul_comm dg.toNat (4294967296 ^ k), Nat.mul_assoc]
    exact this
/-- Behind the loop: the highest limb. -/
structure SbE (D0 y : List Int) (j : Nat) (dg : Int) (D : List Int) (neg : Bool) : Prop where
  len : D.length = D0.length
  lim : Lim D
  take : D.take j = D0.take j
  far : ∀ i, j + y.length < i → D.getD i 0 = D0.getD i 0
  eq : val (D.drop j) + dg.toNat * val y = val (D0.drop j) + if neg then 4294967296 ^ (y.length + 1) else 0
theorem SbS.done {D0 y D : List Int} {j : Nat} {dg b c z b' : Int} {neg : Bool} (h : SbS D0 y j dg y.length D b c) (hj : j + y.length < D0.length)
    (hz : D.getD (j + y.length) 0 + 4294967296 * b' = z + b + c) (z0 : 0 ≤ z) (z1 : z ≤ 4294967295) (hb : b' = if neg then 1 else 0) : SbE D0 y j dg (D.set (j + y.length) z) neg := by
  have c0 := h.c0
  have b0 := h.b0
  have D1 := h.lim.get (j + y.length)
  refine ⟨by simp [h.len], h.lim.set _ z0 z1, ?_, fun i hi => by rw [getD_set_ne' (by omega)]; exact h.far i hi, ?_⟩
  · rw [List.take_set_of_le (by omega)]; exact h.take
  · rw [drop_set_at]
    have h1 := val_set (D.drop j) y.length z (by rw [List.length_drop, h.len]; omega)
    rw [getD_drop] at h1
    have h2 := h.eq
    rw [List.take_length] at h2
    have e : (D.getD (j + y.length) 0).toNat + 4294967296 * b'.toNat = z.toNat + b.toNat + c.toNat := by
      have : 0 ≤ b' := by rw [hb]; split <;> omega
      omega
    have e2 : 4294967296 ^ y.length * ((D.getD (j + y.length) 0).toNat + 4294967296 * b'.toNat) = 4294967296 ^ y.length * (z.toNat + b.toNat + c.toNat) := by rw [e]
    have e3 : (if neg = true then 4294967296 ^ (y.length + 1) else 0) = 4294967296 ^ y.length * (4294967296 * b'.toNat) := by
      rw [hb]
      cases neg <;> simp [Nat.pow_succ]
    rw [e3]
    simp only [Nat.mul_add] at e2 h2
    omega

/-- Putting back, k limbs done. -/
structure AbS (D0 y : List Int) (j k : Nat) (D : List Int) (c : Int) : Prop where
  len : D.length = D0.length
  lim : Lim D
  take : D.take j = D0.take j
  far : ∀ i, j + y.length < i → D.getD i 0 = D0.getD i 0
  c0 : 0 ≤ c
  c1 : c ≤ 1
  eq : val (D.drop j) + 4294967296 ^ k * c.toNat = val (D0.drop j) + val (y.take k)
theorem AbS.start {D0 : List Int} (y : List Int) (j : Nat) (h : Lim D0) : AbS D0 y j 0 D0 0 := ⟨rfl, h, rfl, fun _ _ => rfl, by omega, by omega, by simp [val]⟩
theorem AbS.next {D0 y D : List Int} {j k : Nat} {c t : Int} (h : AbS D0 y j k D c) (hy : Lim y) (hk : k < y.length) (hj : j + y.length < D0.length) (ht : t = c + (D.getD (j + k) 0 + y.getD k 0)) : AbS D0 y j (k + 1) (D.set (j + k) (t % 4294967296)) (t / 4294967296) := by
  have q := hy.get k
  have D1 := h.lim.get (j + k)
  have c0 := h.c0
  have c1 := h.c1
  refine ⟨by simp [h.len], h.lim.set _ (by omega) (by omega), ?_, fun i hi => by rw [getD_set_ne' (by omega)]; exact h.far i hi, by omega, by omega, ?_⟩
  · rw [List.take_set_of_le (by omega)]; exact h.take
  · rw [drop_set_at, val_take_succ' y, Nat.pow_succ]
    have h1 := val_set (D.drop j) k (t % 4294967296) (by rw [List.length_drop, h.len]; omega)
    rw [getD_drop] at h1
    have h2 := h.eq
    have e : (t % 4294967296).toNat + 4294967296 * (t / 4294967296).toNat = c.toNat + ((D.getD (j + k) 0).toNat + (y.getD k 0).toNat) := by omega
    have e2 : 4294967296 ^ k * ((t % 4294967296).toNat + 4294967296 * (t / 4294967296).toNat) = 4294967296 ^ k * (c.toNat + ((D.getD (j + k) 0).toNat + (y.getD k 0).toNat)) := by rw [e]
    simp only [Nat.mul_add] at e2
    rw [Nat.mul_assoc]
    omega
structure AbE (D0 y : List Int) (j : Nat) (D : List Int) : Prop where
  len : D.length = D0.length
  lim : Lim D
  take : D.take j = D0.take j
  far : ∀ i, j + y.length < i → D.getD i 0 = D0.getD i 0
  eq : ∃ o : Nat, val (D.drop j) + 4294967296 ^ (y.length + 1) * o = val (D0.drop j) + val y
theorem AbS.done {D0 y D : List Int} {j : Nat} {c t : Int} (h : AbS D0 y j y.length D c) (hj : j + y.length < D0.length) (ht : t = D.getD (j + y.length) 0 + c) : AbE D0 y j (D.set (j + y.length) (t % 4294967296)) := by
  have c0 := h.c0
  have D1 := h.lim.get (j + y.length)
  refine ⟨by simp [h.len], h.lim.set _ (by omega) (by omega), ?_, fun i hi => by rw [getD_set_ne' (by omega)]; exact h.far i hi, (t / 4294967296).toNat, ?_⟩
  · rw [List.take_set_of_le (by omega)]; exact h.take
  · rw [drop_set_at, Nat.pow_succ]
    have h1 := val_set (D.drop j) y.length (t % 4294967296) (by rw [List.length_drop, h.len]; omega)
    rw [getD_drop] at h1
    have h2 := h.eq
    rw [List.take_length] at h2
    have e : (t % 4294967296).toNat + 4294967296 * (t / 4294967296).toNat = (D.getD (j + y.length) 0).toNat + c.toNat := by omega
    have e2 : 4294967296 ^ y.length * ((t % 4294967296).toNat + 4294967296 * (t / 4294967296).toNat) = 4294967296 ^ y.length * ((D.getD (j + y.length) 0).toNat + c.toNat) := by rw [e]
    simp only [Nat.mul_add] at e2
    rw [Nat.mul_assoc]
    omega
end Go.Proofs.Ytkbgdiejjabdmaa
