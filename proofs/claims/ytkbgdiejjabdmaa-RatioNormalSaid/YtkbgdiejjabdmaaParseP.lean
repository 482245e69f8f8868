/- Plain: a number times a limb plus a limb; decimal notation read from the left. -/
import Derived.Test.YtkbgdiejjabdmaaMulP
namespace Go.Proofs.Ytkbgdiejjabdmaa

structure ScS (x : List Int) (b p : Int) (k : Nat) (xs : List Int) (c : Int) : Prop where
  len : xs.length = k
  lim : Lim xs
  lo : 0 ≤ c
  hi : c ≤ 4294967295
  eq : val xs + 4294967296 ^ k * c.toNat = val (x.take k) * b.toNat + p.toNat
theorem ScS.start (x : List Int) (b : Int) {p : Int} (h0 : 0 ≤ p) (h1 : p ≤ 4294967295) : ScS x b p 0 [] p := ⟨rfl, Lim.nil, h0, h1, by simp [val]⟩
theorem ScS.next {x xs : List Int} {b p c t : Int} {k : Nat} (h : ScS x b p k xs c) (hx : Lim x) (b0 : 0 ≤ b) (b1 : b ≤ 4294967295) (ht : t = c + x.getD k 0 * b) : ScS x b p (k + 1) (xs ++ [t % 4294967296]) (t / 4294967296) := by
  have q := hx.get k
  have m := mul_bound q.1 q.2 b0 b1
  have c0 := h.lo
  have c1 := h.hi
  refine ⟨by simp [h.len], h.lim.append (Lim.cons (by omega) (by omega) Lim.nil), by omega, by omega, ?_⟩
  rw [val_snoc, h.len, val_take_succ', Nat.pow_succ, Nat.add_mul]
  have e : (x.getD k 0 * b).toNat = (x.getD k 0).toNat * b.toNat := Int.toNat_mul q.1 b0
  have e1 : (t % 4294967296).toNat + 4294967296 * (t / 4294967296).toNat = c.toNat + (x.getD k 0).toNat * b.toNat := by rw [← e]; omega
  have e2 : 4294967296 ^ k * ((t % 4294967296).toNat + 4294967296 * (t / 4294967296).toNat) = 4294967296 ^ k * (c.toNat + (x.getD k 0).toNat * b.toNat) := by rw [e1]
  have h2 := h.eq
  rw [Nat.mul_add, Nat.mul_add] at e2
  rw [Nat.mul_assoc, Nat.mul_assoc]
  omega
theorem ScS.done0 {n : Nat} {xs : List Int} {b p : Int} (h : ScS (limbs n) b p (limbs n).length xs 0) (hb : 1 ≤ b) : xs = limbs (n * b.toNat + p.toNat) := by
  have h1 := h.eq
  rw [List.take_length, val_limbs] at h1
  simp only [Int.toNat_zero, Nat.mul_zero, Nat.add_zero] at h1
  rw [← h1]
  refine (limbs_full h.lim ?_).symm
  by_cases h0 : xs.length = 0
  · exact .inl (List.eq_nil_of_length_eq_zero h0)
  · right
    obtain ⟨k, hk⟩ : ∃ k, xs.length = k + 1 := ⟨xs.length - 1, by omega⟩
    have := limbs_ge (n := n) (k := k) (by rw [← h.len, hk])
    rw [hk, Nat.add_sub_cancel, h1]
    have h2 : n * 1 ≤ n * b.toNat := Nat.mul_le_mul_left _ (by omega)
    omega
theorem ScS.done1 {n : Nat} {xs : List Int} {b p c : Int} (h : ScS (limbs n) b p (limbs n).length xs c) (hc : 0 < c) : xs ++ [c] = limbs (n * b.toNat + p.toNat) := by
  have h1 := h.eq
  rw [List.take_length, val_limbs] at h1
  have h2 : val (xs ++ [c]) = n * b.toNat + p.toNat := by rw [val_snoc, ← h1, h.len]
  rw [← h2]
  refine (limbs_full (h.lim.append (Lim.cons (by omega) h.hi Lim.nil)) (.inr ?_)).symm
  rw [val_snoc, List.length_append, List.length_singleton, Nat.add_sub_cancel]
  have : 4294967296 ^ xs.length * 1 ≤ 4294967296 ^ xs.length * c.toNat := Nat.mul_le_mul_left _ (by omega)
  omega

/-- What the digits denote. -/
def decVal (l : List UInt8) : Nat := l.foldl (fun n c => n * 10 + (c.toNat - 48)) 0
def isDig (c : UInt8) : Bool := decide (48 ≤ c.toNat) && decide (c.toNat ≤ 57)
/-- The error of Parse: 0, 2 or 5. -/
def pErr (l : List UInt8) : Int := if l = [] ∨ (l.head? = some 48 ∧ 1 < l.length) then 2 else if l.all isDig = false then 2 else if 400 < l.length then 5 else 0
/-- The number that Parse returns. -/
def pVal (l : List UInt8) : Nat := if pErr l = 0 then decVal l else 0
theorem decVal_snoc (l : List UInt8) (c : UInt8) : decVal (l ++ [c]) = decVal l * 10 + (c.toNat - 48) := by simp [decVal]
end Go.Proofs.Ytkbgdiejjabdmaa
