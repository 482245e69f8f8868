/- Plain: adding and subtracting limb by limb. -/
import Derived.Test.YtkbgdiejjabdmaaVal
namespace Go.Proofs.Ytkbgdiejjabdmaa

theorem val_take_succ' (l : List Int) (n : Nat) : val (l.take (n + 1)) = val (l.take n) + 4294967296 ^ n * (l.getD n 0).toNat := by
  by_cases h : n < l.length
  · exact val_take_succ l n h
  · rw [List.take_of_length_le (by omega), List.take_of_length_le (by omega), List.getD_eq_getElem?_getD, List.getElem?_eq_none (by omega)]
    simp
/-- The sum so far: the limbs xs and a carry. -/
structure AddSt (x y : List Int) (k : Nat) (xs : List Int) (c : Int) : Prop where
  len : xs.length = k
  lim : Lim xs
  lo : 0 ≤ c
  hi : c ≤ 1
  eq : val xs + 4294967296 ^ k * c.toNat = val (x.take k) + val (y.take k)
theorem AddSt.start (x y : List Int) : AddSt x y 0 [] 0 := ⟨rfl, Lim.nil, by omega, by omega, by simp [val]⟩
theorem AddSt.next {x y : List Int} {k : Nat} {xs : List Int} {c : Int} (h : AddSt x y k xs c) (hx : Lim x) (hy : Lim y) : AddSt x y (k + 1) (xs ++ [(c + x.getD k 0 + y.getD k 0) % 4294967296]) ((c + x.getD k 0 + y.getD k 0) / 4294967296) := by
  have h1 := hx.get k
  have h2 := hy.get k
  have h3 := h.lo
  have h4 := h.hi
  refine ⟨by simp [h.len], h.lim.append (Lim.cons (by omega) (by omega) Lim.nil), by omega, by omega, ?_⟩
  rw [val_snoc, h.len, val_take_succ', val_take_succ', Nat.pow_succ]
  have h5 := h.eq
  have h6 : (c + x.getD k 0 + y.getD k 0).toNat = c.toNat + (x.getD k 0).toNat + (y.getD k 0).toNat := by omega
  have h7 : ((c + x.getD k 0 + y.getD k 0) % 4294967296).toNat + 4294967296 * ((c + x.getD k 0 + y.getD k 0) / 4294967296).toNat = c.toNat + (x.getD k 0).toNat + (y.getD k 0).toNat := by omega
  have h8 : 4294967296 ^ k * (((c + x.getD k 0 + y.getD k 0) % 4294967296).toNat + 4294967296 * ((c + x.getD k 0 + y.getD k 0) / 4294967296).toNat) = 4294967296 ^ k * (c.toNat + (x.getD k 0).toNat + (y.getD k 0).toNat) := by rw [h7]
  rw [Nat.mul_add, Nat.mul_add, Nat.mul_add] at h8
  rw [Nat.mul_assoc]
  omega
/-- Limbs with the highest one above 0 are in normal form. -/
theorem limbs_full {xs : List Int} (h : Lim xs) (hb : xs = [] ∨ 4294967296 ^ (xs.length - 1) ≤ val xs) : limbs (val xs) = xs := by
  rcases hb with rfl | hb
  · exact limbs_zero
  · refine limbs_val h ?_
    by_cases h0 : xs = []
    · exact .inl h0
    · right
      intro z hz hz0
      subst hz0
      obtain ⟨k, hk⟩ : ∃ k, xs.length = k + 1 := ⟨xs.length - 1, by have := List.length_pos_iff.2 h0; omega⟩
      rw [List.getLast?_eq_getElem?, hk, Nat.add_sub_cancel] at hz
      have h1 := val_take_succ' xs k
      rw [← hk, List.take_length, List.getD_eq_getElem?_getD, hz] at h1
      have h2 := val_lt (h.take k)
      rw [List.length_take, Nat.min_eq_left (by omega)] at h2
      rw [hk, Nat.add_sub_cancel] at hb
      simp at h1
      omega
theorem limbs_ge {n k : Nat} (h : (limbs n).length = k + 1) : 4294967296 ^ k ≤ n := by
  have h1 := val_top (k := k) h (limbs_lim n) (by
    have h2 := limbs_last n
    rw [List.getLast?_eq_getElem?, h, Nat.add_sub_cancel] at h2
    rw [List.getD_eq_getElem?_getD]
    cases hg : (limbs n)[k]? with
    | none => rw [List.getElem?_eq_none_iff] at hg; omega
    | some z => exact h2 z hg)
  rwa [val_limbs] at h1
theorem AddSt.done0 {m n : Nat} {xs : List Int} (h : AddSt (limbs m) (limbs n) (limbs m).length xs 0) (hl : (limbs n).length ≤ (limbs m).length) : xs = limbs (m + n) := by
  have h1 := h.eq
  rw [List.take_length, List.take_of_length_le hl, val_limbs, val_limbs] at h1
  simp only [Int.toNat_zero, Nat.mul_zero, Nat.add_zero] at h1
  rw [← h1]
  refine (limbs_full h.lim ?_).symm
  by_cases h0 : xs.length = 0
  · exact .inl (List.eq_nil_of_length_eq_zero h0)
  · right
    obtain ⟨k, hk⟩ : ∃ k, xs.length = k + 1 := ⟨xs.length - 1, by omega⟩
    have := limbs_ge (n := m) (k := k) (by rw [← h.len, hk])
    rw [hk, Nat.add_sub_cancel]
    omega
theorem AddSt.done1 {m n : Nat} {xs : List Int} {c : Int} (h : AddSt (limbs m) (limbs n) (limbs m).length xs c) (hl : (limbs n).length ≤ (limbs m).length) (hc : 0 < c) : xs ++ [c] = limbs (m + n) := by
  have h1 := h.eq
  have hc1 : c = 1 := by have := h.hi; omega
  subst hc1
  rw [List.take_length, List.take_of_length_le hl, val_limbs, val_limbs] at h1
  have h2 : val (xs ++ [1]) = m + n := by rw [val_snoc, ← h1, h.len]
  rw [← h2]
  refine (limbs_full (h.lim.append (Lim.cons (by omega) (by omega) Lim.nil)) (.inr ?_)).symm
  rw [val_snoc, List.length_append, List.length_singleton, Nat.add_sub_cancel]
  simp
/-- The difference so far: the limbs d, of which k are done, and a borrow. -/
structure SubSt (x y : List Int) (k : Nat) (d : List Int) (b : Int) : Prop where
  len : d.length = x.length
  lim : Lim d
  lo : 0 ≤ b
  hi : b ≤ 1
  eq : val (x.take k) + 4294967296 ^ k * b.toNat = val (d.take k) + val (y.take k)
theorem SubSt.start (x y : List Int) : SubSt x y 0 (List.replicate x.length 0) 0 := ⟨by simp, Lim.replicate _, by omega, by omega, by simp [val]⟩
theorem val_take_set {d : List Int} {k : Nat} (hk : k < d.length) (z : Int) : val ((d.set k z).take (k + 1)) = val (d.take k) + 4294967296 ^ k * z.toNat := by
  rw [val_take_succ', List.take_set_of_le (Nat.le_refl k)]
  congr 2
  rw [List.getD_eq_getElem?_getD, List.getElem?_set_self hk]
  rfl
theorem SubSt.next {x y d : List Int} {k : Nat} {b : Int} (h : SubSt x y k d b) (hx : Lim x) (hy : Lim y) (hk : k < x.length) {z b' : Int} (hz : x.getD k 0 + 4294967296 * b' = z + (b + y.getD k 0)) (z0 : 0 ≤ z) (z1 : z ≤ 4294967295) (l0 : 0 ≤ b') (l1 : b' ≤ 1) : SubSt x y (k + 1) (d.set k z) b' := by
  have h1 := hx.get k
  have h2 := hy.get k
  have h3 := h.lo
  have h5 := h.eq
  refine ⟨by simp [h.len], h.lim.set k z0 z1, l0, l1, ?_⟩
  rw [val_take_set (by rw [h.len]; exact hk), val_take_succ' x, val_take_succ' y, Nat.pow_succ]
  have h7 : (x.getD k 0).toNat + 4294967296 * b'.toNat = z.toNat + (b.toNat + (y.getD k 0).toNat) := by omega
  have h8 : 4294967296 ^ k * ((x.getD k 0).toNat + 4294967296 * b'.toNat) = 4294967296 ^ k * (z.toNat + (b.toNat + (y.getD k 0).toNat)) := by rw [h7]
  rw [Nat.mul_add, Nat.mul_add, Nat.mul_add] at h8
  rw [Nat.mul_assoc]
  omega
theorem SubSt.done {m n : Nat} {d : List Int} {b : Int} (h : SubSt (limbs m) (limbs n) (limbs m).length d b) (hmn : n ≤ m) : val d = m - n := by
  have h1 := h.eq
  have hl : (limbs n).length ≤ (limbs m).length := limbs_mono hmn
  rw [List.take_length, List.take_of_length_le hl, val_limbs, val_limbs, ← h.len, List.take_length] at h1
  have h2 := val_lt h.lim
  have h3 := h.lo
  by_cases hb : b = 0
  · subst hb; simp at h1; omega
  · have hb1 : b = 1 := by have := h.hi; omega
    subst hb1
    simp at h1
    omega
end Go.Proofs.Ytkbgdiejjabdmaa
