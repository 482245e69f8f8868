/- Plain: the guess of a quotient's digit by the highest limbs. -/
import Derived.Test.YtkbgdiejjabdmaaDivP
import Derived.Test.YtkbgdiejjabdmaaKnuth
namespace Go.Proofs.Ytkbgdiejjabdmaa

/-- No digit of the quotient is above d. -/
def Dom (h v1 v0 u0 d : Int) : Prop := ∀ W vr ur q : Nat, vr < W → ur < W → q ≤ 4294967295 → q * ((v1.toNat * 4294967296 + v0.toNat) * W + vr) ≤ (h.toNat * 4294967296 + u0.toNat) * W + ur → (q : Int) ≤ d
structure GuS (h v1 v0 u0 d r : Int) : Prop where
  v1lo : 2147483648 ≤ v1
  v1hi : v1 ≤ 4294967295
  v0lo : 0 ≤ v0
  v0hi : v0 ≤ 4294967295
  u0lo : 0 ≤ u0
  u0hi : u0 ≤ 4294967295
  hhi : h ≤ v1 * 4294967296 + 4294967295
  eq : d * v1 + r = h
  dlo : 0 ≤ d
  rlo : 0 ≤ r
  dom : Dom h v1 v0 u0 d
structure GuE (h v1 v0 u0 d : Int) : Prop where
  lo : 0 ≤ d
  hi : d ≤ 4294967295
  dom : Dom h v1 v0 u0 d
  up : ∃ r : Int, 0 ≤ r ∧ d * v1 + r = h ∧ d * v0 ≤ r * 4294967296 + u0
theorem GuS.start {h v1 v0 u0 : Int} (h1 : 2147483648 ≤ v1) (h2 : v1 ≤ 4294967295) (h3 : 0 ≤ v0) (h4 : v0 ≤ 4294967295) (h5 : 0 ≤ u0) (h6 : u0 ≤ 4294967295) (h0 : 0 ≤ h) (h7 : h ≤ v1 * 4294967296 + 4294967295) :
    GuS h v1 v0 u0 (h / v1) (h % v1) ∧ h % v1 ≤ 4294967295 := by
  have e := Int.mul_ediv_add_emod h v1
  have d0 : 0 ≤ h / v1 := Int.ediv_nonneg h0 (by omega)
  have r0 := Int.emod_nonneg h (show v1 ≠ 0 by omega)
  have r1 := Int.emod_lt_of_pos h (show 0 < v1 by omega)
  refine ⟨⟨h1, h2, h3, h4, h5, h6, h7, by rw [Int.mul_comm]; exact e, d0, r0, ?_⟩, by omega⟩
  intro W vr ur q hv hu _ hq
  have := kn_first (B := 4294967296) rfl rfl hu (by omega) hq
  have h8 : (q : Int) * v1 ≤ h := by
    have h9 : ((q * v1.toNat : Nat) : Int) ≤ (h.toNat : Int) := by exact_mod_cast this
    rw [Int.natCast_mul] at h9
    rw [Int.toNat_of_nonneg (by omega), Int.toNat_of_nonneg h0] at h9
    exact h9
  exact (Int.le_ediv_iff_mul_le (by omega)).2 h8
theorem GuS.next {h v1 v0 u0 d r : Int} (s : GuS h v1 v0 u0 d r) (ht : 4294967295 < d ∨ r * 4294967296 + u0 < d * v0) : GuS h v1 v0 u0 (d - 1) (r + v1) := by
  have h1 := s.v1lo
  have h2 := s.v0lo
  have h3 := s.u0lo
  have h4 := s.dlo
  have h5 := s.rlo
  have hd : 1 ≤ d := by
    rcases ht with ht | ht
    · omega
    · by_cases hd0 : d = 0
      · subst hd0; omega
      · omega
  refine ⟨h1, s.v1hi, h2, s.v0hi, h3, s.u0hi, s.hhi, ?_, by omega, by omega, ?_⟩
  · have := s.eq
    rw [Int.sub_mul]
    omega
  · intro W vr ur q hv hu hqB hq
    have hqd := s.dom W vr ur q hv hu hqB hq
    rcases ht with ht | ht
    · omega
    · have e1 : d.toNat * v1.toNat + r.toNat = h.toNat := by
        have e2 := s.eq
        have e3 : (d * v1).toNat = d.toNat * v1.toNat := Int.toNat_mul h4 (by omega)
        have e4 := Int.mul_nonneg h4 (show 0 ≤ v1 by omega)
        omega
      have e5 : r.toNat * 4294967296 + u0.toNat < d.toNat * v0.toNat := by
        have e3 : (d * v0).toNat = d.toNat * v0.toNat := Int.toNat_mul h4 h2
        omega
      have := kn_test (B := 4294967296) rfl rfl hu hq e1 e5 (by omega)
      omega
theorem GuS.dle {h v1 v0 u0 d r : Int} (s : GuS h v1 v0 u0 d r) : d ≤ 4294967297 := by
  have h1 := s.eq
  have h2 := s.hhi
  have h3 := s.v1lo
  have h4 := s.rlo
  rcases Int.lt_or_le 4294967297 d with h5 | h5
  · exfalso
    have h6 : 4294967298 * v1 ≤ d * v1 := Int.mul_le_mul_of_nonneg_right (by omega) (by omega)
    omega
  · exact h5
/-- Behind the last step down: the rest is too great for a further test. -/
theorem GuS.brk {h v1 v0 u0 d r : Int} (s : GuS h v1 v0 u0 d r) (ht : 4294967295 < d ∨ r * 4294967296 + u0 < d * v0) (hr : 4294967295 < r + v1) : GuE h v1 v0 u0 (d - 1) := by
  have n := s.next ht
  have h1 := s.eq
  have h2 := s.hhi
  have h3 := s.v1lo
  have h4 := s.rlo
  have h5 := n.dlo
  have hd : d ≤ 4294967296 := by
    rcases Int.lt_or_le 4294967296 d with h6 | h6
    · exfalso
      have h7 : 4294967297 * v1 ≤ d * v1 := Int.mul_le_mul_of_nonneg_right (by omega) (by omega)
      omega
    · exact h6
  refine ⟨n.dlo, by omega, n.dom, r + v1, n.rlo, n.eq, ?_⟩
  have h8 : (d - 1) * v0 ≤ 4294967295 * v0 := Int.mul_le_mul_of_nonneg_right (by omega) n.v0lo
  have h9 := n.v0hi
  have h10 := n.u0lo
  omega
theorem GuS.fin {h v1 v0 u0 d r : Int} (s : GuS h v1 v0 u0 d r) (h1 : d ≤ 4294967295) (h2 : d * v0 ≤ r * 4294967296 + u0) : GuE h v1 v0 u0 d := ⟨s.dlo, h1, s.dom, r, s.rlo, s.eq, h2⟩
/-- The guess is the digit, or one above it. -/
theorem GuE.use {h v1 v0 u0 d : Int} (g : GuE h v1 v0 u0 d) (hv1 : 0 < v1) (hv0 : 0 ≤ v0) (hu0 : 0 ≤ u0) {W vr ur V U : Nat} (hV : V = (v1.toNat * 4294967296 + v0.toNat) * W + vr) (hU : U = (h.toNat * 4294967296 + u0.toNat) * W + ur) (hvr : vr < W) (hur : ur < W) (hUV : U < V * 4294967296) :
    U / V ≤ d.toNat ∧ d.toNat * V < U + V := by
  have hVpos : 0 < V := by
    rcases Nat.eq_zero_or_pos V with h0 | h0
    · rw [h0] at hUV; omega
    · exact h0
  have hq : U / V ≤ 4294967295 := by
    have : U / V < 4294967296 := by rw [Nat.div_lt_iff_lt_mul hVpos, Nat.mul_comm]; exact hUV
    omega
  have hlo := g.lo
  refine ⟨?_, ?_⟩
  · have := g.dom W vr ur (U / V) hvr hur hq (by rw [← hV, ← hU]; exact Nat.div_mul_le_self U V)
    omega
  · obtain ⟨r, hr0, hr1, hr2⟩ := g.up
    have e1 : d.toNat * v1.toNat + r.toNat = h.toNat := by
      have e3 : (d * v1).toNat = d.toNat * v1.toNat := Int.toNat_mul hlo (by omega)
      have e4 := Int.mul_nonneg hlo (show 0 ≤ v1 by omega)
      omega
    have e5 : d.toNat * v0.toNat ≤ r.toNat * 4294967296 + u0.toNat := by
      have e3 : (d * v0).toNat = d.toNat * v0.toNat := Int.toNat_mul hlo hv0
      omega
    have := g.hi
    exact kn_last (B := 4294967296) hV hvr hU e1 e5 (by omega) (by omega) (by omega)
end Go.Proofs.Ytkbgdiejjabdmaa
