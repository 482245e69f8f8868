/- Plain: dividing by one limb, shifting by less than a limb. -/
import Derived.Test.YtkbgdiejjabdmaaMulP
namespace Go.Proofs.Ytkbgdiejjabdmaa

theorem val_drop {l : List Int} {k : Nat} (h : k < l.length) : val (l.drop k) = (l.getD k 0).toNat + 4294967296 * val (l.drop (k + 1)) := by
  rw [List.drop_eq_getElem_cons h, List.getD_eq_getElem?_getD, List.getElem?_eq_getElem h]
  rfl
theorem drop_set_ge {l : List Int} {k : Nat} (z : Int) : (l.set k z).drop (k + 1) = l.drop (k + 1) := by
  rw [List.drop_set_of_lt (by omega)]
theorem getD_set_self {l : List Int} {k : Nat} (h : k < l.length) (z : Int) : (l.set k z).getD k 0 = z := by
  rw [List.getD_eq_getElem?_getD, List.getElem?_set_self h]; rfl
theorem val_drop_set {l : List Int} {k : Nat} (h : k < l.length) (z : Int) : val ((l.set k z).drop k) = z.toNat + 4294967296 * val (l.drop (k + 1)) := by
  rw [val_drop (by simpa using h), getD_set_self h, drop_set_ge]
/-- The quotient Q so far, its limbs from k on, and a rest. -/
structure DivS (a : List Int) (d : Int) (k : Nat) (Q : List Int) (r : Int) : Prop where
  len : Q.length = a.length
  lim : Lim Q
  lo : 0 ≤ r
  hi : r < d
  eq : val (a.drop k) = val (Q.drop k) * d.toNat + r.toNat
theorem DivS.start (a : List Int) {d : Int} (hd : 0 < d) : DivS a d a.length (List.replicate a.length 0) 0 :=
  ⟨by simp, Lim.replicate _, by omega, hd, by simp [val]⟩
theorem DivS.next {a Q : List Int} {d : Int} {k : Nat} {r t : Int} (h : DivS a d (k + 1) Q r) (ha : Lim a) (hk : k < a.length) (hd : d ≤ 4294967296) (ht : t = r * 4294967296 + a.getD k 0) : DivS a d k (Q.set k (t / d)) (t % d) := by
  have h0 := ha.get k
  have h1 := h.lo
  have h2 := h.hi
  have hd0 : 0 < d := by omega
  have ht0 : 0 ≤ t := by omega
  have q0 : 0 ≤ t / d := Int.ediv_nonneg ht0 (by omega)
  have r0 := Int.emod_nonneg t (show d ≠ 0 by omega)
  have r1 := Int.emod_lt_of_pos t hd0
  have hq : t / d < 4294967296 := by
    rw [Int.ediv_lt_iff_lt_mul hd0]
    omega
  have hdm := Int.mul_ediv_add_emod t d
  refine ⟨by simp [h.len], h.lim.set k q0 (by omega), r0, r1, ?_⟩
  rw [val_drop hk, val_drop_set (by rw [h.len]; exact hk), h.eq]
  have e1 : (d * (t / d)).toNat = d.toNat * (t / d).toNat := Int.toNat_mul (by omega) q0
  have e2 : t.toNat = d.toNat * (t / d).toNat + (t % d).toNat := by
    rw [← e1]
    have := Int.mul_nonneg (show 0 ≤ d by omega) q0
    omega
  have e3 : t.toNat = r.toNat * 4294967296 + (a.getD k 0).toNat := by omega
  grind
theorem DivS.done {a Q : List Int} {d r : Int} (h : DivS a d 0 Q r) : val Q = val a / d.toNat ∧ r.toNat = val a % d.toNat := by
  have h1 := h.eq
  have h2 := h.lo
  have h3 := h.hi
  simp only [List.drop_zero] at h1
  rw [h1, Nat.mul_comm]
  refine ⟨?_, ?_⟩
  · rw [Nat.mul_add_div (by omega), Nat.div_eq_of_lt (by omega), Nat.add_zero]
  · rw [Nat.mul_add_mod, Nat.mod_eq_of_lt (by omega)]

/-- A shift upward, k limbs done. -/
structure ShU (a : List Int) (s : Nat) (k : Nat) (d : List Int) (c : Int) : Prop where
  len : d.length = a.length + 1
  lim : Lim d
  lo : 0 ≤ c
  hi : c < 2 ^ s
  eq : val (d.take k) + 4294967296 ^ k * c.toNat = val (a.take k) * 2 ^ s
theorem ShU.start (a : List Int) (s : Nat) : ShU a s 0 (List.replicate (a.length + 1) 0) 0 :=
  ⟨by simp, Lim.replicate _, by omega, Int.pow_pos (by decide), by simp [val]⟩
theorem pow_s {s : Nat} (hs : s < 32) : ∃ p : Nat, (2 : Nat) ^ s = p ∧ (2 : Int) ^ s = (p : Int) ∧ 1 ≤ p ∧ p ≤ 2147483648 ∧ ∃ q, p * q = 4294967296 ∧ 2 ≤ q := by
  refine ⟨2 ^ s, rfl, by simp, Nat.two_pow_pos s, ?_, 2 ^ (32 - s), ?_, ?_⟩
  · exact Nat.pow_le_pow_right (n := 2) (by decide) (show s ≤ 31 by omega)
  · rw [← Nat.pow_add, show s + (32 - s) = 32 by omega]
  · exact Nat.pow_le_pow_right (n := 2) (by decide) (show 1 ≤ 32 - s by omega)
theorem ShU.next {a d : List Int} {s k : Nat} {c t : Int} (h : ShU a s k d c) (ha : Lim a) (hs : s < 32) (hk : k < a.length) (ht : t = c + a.getD k 0 * 2 ^ s) : ShU a s (k + 1) (d.set k (t % 4294967296)) (t / 4294967296) := by
  have h0 := ha.get k
  have h1 := h.lo
  have h2 := h.hi
  have h3 := h.eq
  obtain ⟨p, hp, hpi, p1, p2, _⟩ := pow_s hs
  rw [hpi] at h2 ht
  rw [hp] at h3
  have hm : (a.getD k 0 * (p : Int)).toNat = (a.getD k 0).toNat * p := by rw [Int.toNat_mul h0.1 (by omega)]; simp
  have hm0 : 0 ≤ a.getD k 0 * (p : Int) := Int.mul_nonneg h0.1 (by omega)
  have hm1 : a.getD k 0 * (p : Int) ≤ 4294967295 * p := Int.mul_le_mul_of_nonneg_right h0.2 (by omega)
  refine ⟨by simp [h.len], h.lim.set k (by omega) (by omega), by omega, by rw [hpi]; omega, ?_⟩
  rw [val_take_set (by rw [h.len]; omega), val_take_succ' a, hp, Nat.pow_succ]
  have e1 : (t % 4294967296).toNat + 4294967296 * (t / 4294967296).toNat = c.toNat + (a.getD k 0).toNat * p := by rw [← hm]; omega
  have e2 : 4294967296 ^ k * ((t % 4294967296).toNat + 4294967296 * (t / 4294967296).toNat) = 4294967296 ^ k * (c.toNat + (a.getD k 0).toNat * p) := by rw [e1]
  grind
theorem ShU.done {a d : List Int} {s : Nat} {c : Int} (h : ShU a s a.length d c) (hs : s < 32) : val (d.set a.length c) = val a * 2 ^ s ∧ Lim (d.set a.length c) := by
  have h1 := h.eq
  have h2 := val_take_set (d := d) (k := a.length) (by rw [h.len]; omega) c
  rw [List.take_of_length_le (by simp [h.len])] at h2
  rw [List.take_length] at h1
  obtain ⟨p, hp, hpi, p1, p2, _⟩ := pow_s hs
  have h3 := h.hi
  rw [hpi] at h3
  exact ⟨by rw [h2, h1], h.lim.set _ h.lo (by omega)⟩

/-- A shift downward, k limbs done. -/
structure ShD (a : List Int) (s : Nat) (k : Nat) (d : List Int) : Prop where
  len : d.length = a.length
  lim : Lim d
  eq : val (d.take k) + 4294967296 ^ k * (val (a.drop k) / 2 ^ s) = val a / 2 ^ s
theorem ShD.start (a : List Int) (s : Nat) : ShD a s 0 (List.replicate a.length 0) := ⟨by simp, Lim.replicate _, by simp [val]⟩
theorem val_drop_any (l : List Int) (k : Nat) : val (l.drop k) = (l.getD k 0).toNat + 4294967296 * val (l.drop (k + 1)) := by
  by_cases h : k < l.length
  · exact val_drop h
  · rw [List.drop_eq_nil_of_le (by omega), List.drop_eq_nil_of_le (by omega), List.getD_eq_getElem?_getD, List.getElem?_eq_none (by omega)]
    rfl
theorem shd_step {x y E p q : Nat} (hp : p * q = 4294967296) (p1 : 1 ≤ p) : (x + 4294967296 * (y + 4294967296 * E)) / p % 4294967296 = (x + 4294967296 * y) / p % 4294967296 := by
  have h1 : x + 4294967296 * (y + 4294967296 * E) = x + 4294967296 * y + p * (4294967296 * (q * E)) := by grind
  rw [h1, Nat.add_mul_div_left _ _ (by omega), Nat.add_mul_mod_self_left]
theorem ShD.next {a d : List Int} {s k : Nat} {t : Int} (h : ShD a s k d) (ha : Lim a) (hs : s < 32) (hk : k < a.length) (ht : t = (a.getD k 0 + 4294967296 * a.getD (k + 1) 0) / 2 ^ s % 4294967296) : ShD a s (k + 1) (d.set k t) := by
  have h0 := ha.get k
  have h1 := ha.get (k + 1)
  obtain ⟨p, hp, hpi, p1, p2, q, hpq, _⟩ := pow_s hs
  rw [hpi] at ht
  have t0 : 0 ≤ t := by omega
  have t1 : t ≤ 4294967295 := by omega
  have hd := val_drop_any a k
  have hd2 := val_drop_any a (k + 1)
  have h3 := h.eq
  rw [hp] at h3
  refine ⟨by simp [h.len], h.lim.set k t0 t1, ?_⟩
  rw [val_take_set (by rw [h.len]; exact hk), hp, Nat.pow_succ]
  obtain ⟨x, hx⟩ := Int.eq_ofNat_of_zero_le h0.1
  obtain ⟨y, hy⟩ := Int.eq_ofNat_of_zero_le h1.1
  rw [hx, hy] at ht
  rw [hx] at hd
  rw [hy] at hd2
  have e1 : t.toNat = val (a.drop k) / p % 4294967296 := by
    rw [hd, hd2]
    have := shd_step (x := x) (y := y) (E := val (a.drop (k + 1 + 1))) hpq p1
    simp only [Int.toNat_natCast]
    rw [this]
    have e : ((x : Int) + 4294967296 * y) / p % 4294967296 = (((x + 4294967296 * y) / p % 4294967296 : Nat) : Int) := by rw [Int.natCast_emod, Int.natCast_ediv, Int.natCast_add, Int.natCast_mul]; rfl
    rw [ht, e]
    exact Int.toNat_natCast _
  have e2 : val (a.drop (k + 1)) / p = val (a.drop k) / p / 4294967296 := by
    rw [Nat.div_div_eq_div_mul, Nat.mul_comm p, ← Nat.div_div_eq_div_mul, hd]
    congr 1
    simp only [Int.toNat_natCast]
    omega
  rw [e2, e1]
  have e3 : val (a.drop k) / p = val (a.drop k) / p % 4294967296 + 4294967296 * (val (a.drop k) / p / 4294967296) := by omega
  have e4 : 4294967296 ^ k * (val (a.drop k) / p) = 4294967296 ^ k * (val (a.drop k) / p % 4294967296 + 4294967296 * (val (a.drop k) / p / 4294967296)) := by rw [← e3]
  rw [Nat.mul_add] at e4
  rw [Nat.mul_assoc]
  omega
theorem ShD.done {a d : List Int} {s : Nat} (h : ShD a s a.length d) : val d = val a / 2 ^ s := by
  have h1 := h.eq
  rw [← h.len, List.take_length, h.len, List.drop_length] at h1
  simpa [val] using h1
end Go.Proofs.Ytkbgdiejjabdmaa
