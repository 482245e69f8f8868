/- Plain facts on a digit of a long division. -/
namespace Go.Proofs.Ytkbgdiejjabdmaa
/-- The quotient of the highest limbs is never too small. -/
theorem kn_first {B W v1 v0 vr head u0 ur q V U : Nat} (hV : V = (v1 * B + v0) * W + vr) (hU : U = (head * B + u0) * W + ur) (hur : ur < W) (hu0 : u0 < B) (hq : q * V ≤ U) : q * v1 ≤ head := by
  rcases Nat.lt_or_ge head (q * v1) with h | h
  · exfalso
    have h1 : (head + 1) * (B * W) ≤ q * v1 * (B * W) := Nat.mul_le_mul_right _ h
    have h2 : q * V = q * v1 * (B * W) + q * v0 * W + q * vr := by subst hV; grind
    have h3 : (head + 1) * (B * W) = head * B * W + B * W := by grind
    have h4 : U = head * B * W + u0 * W + ur := by subst hU; grind
    have h5 : (u0 + 1) * W ≤ B * W := Nat.mul_le_mul_right _ hu0
    have h6 : (u0 + 1) * W = u0 * W + W := by grind
    omega
  · exact h
/-- A digit that fails the test is too great. -/
theorem kn_test {B W v1 v0 vr head u0 ur q d r V U : Nat} (hV : V = (v1 * B + v0) * W + vr) (hU : U = (head * B + u0) * W + ur) (hur : ur < W) (hq : q * V ≤ U) (hd : d * v1 + r = head) (ht : r * B + u0 < d * v0) (hqd : q ≤ d) : q + 1 ≤ d := by
  rcases Nat.lt_or_ge q d with h | h
  · exact h
  · exfalso
    obtain rfl : q = d := by omega
    have h1 : q * V = q * v1 * B * W + q * v0 * W + q * vr := by subst hV; grind
    have h2 : U = q * v1 * B * W + (r * B + u0) * W + ur := by subst hU; subst hd; grind
    have h3 : (r * B + u0 + 1) * W ≤ q * v0 * W := Nat.mul_le_mul_right _ ht
    have h4 : (r * B + u0 + 1) * W = (r * B + u0) * W + W := by grind
    omega
/-- A digit that passes it is at most one too great. -/
theorem kn_last {B W v1 v0 vr head u0 ur d r V U : Nat} (hV : V = (v1 * B + v0) * W + vr) (hvr : vr < W) (hU : U = (head * B + u0) * W + ur) (hd : d * v1 + r = head) (ht : d * v0 ≤ r * B + u0) (hdB : d ≤ B) (hv : 1 ≤ v1) (hB : 0 < B) : d * V < U + V := by
  have h1 : d * V = d * v1 * B * W + d * v0 * W + d * vr := by subst hV; grind
  have h2 : U = d * v1 * B * W + (r * B + u0) * W + ur := by subst hU; subst hd; grind
  have h3 : d * v0 * W ≤ (r * B + u0) * W := Nat.mul_le_mul_right _ ht
  have h4 : V = v1 * (B * W) + v0 * W + vr := by subst hV; grind
  have h5 : 1 * (B * W) ≤ v1 * (B * W) := Nat.mul_le_mul_right _ hv
  have h6 : d * vr ≤ B * vr := Nat.mul_le_mul_right _ hdB
  have h7 : B * (vr + 1) ≤ B * W := Nat.mul_le_mul_left _ hvr
  have h8 : B * (vr + 1) = B * vr + B := by grind
  omega
end Go.Proofs.Ytkbgdiejjabdmaa
