/- Plain facts on lists of limbs: values, normal forms, sums, products, quotients, shifts, bits; the reference's steps. -/
-- Val
namespace Go.Proofs.YtkbgdiejjabdmaaDoor
/-- The value of a list of limbs. -/
def val : List Int → Nat
  | [] => 0
  | x :: xs => x.toNat + 4294967296 * val xs
/-- Every limb is one. -/
def Lim (l : List Int) : Prop := ∀ x ∈ l, 0 ≤ x ∧ x ≤ 4294967295
theorem Lim.nil : Lim [] := by intro x h; cases h
theorem Lim.cons {x : Int} {l : List Int} (h0 : 0 ≤ x) (h1 : x ≤ 4294967295) (h : Lim l) : Lim (x :: l) := by
  intro y hy
  rcases List.mem_cons.1 hy with rfl | hy
  · exact ⟨h0, h1⟩
  · exact h y hy
theorem Lim.head {x : Int} {l : List Int} (h : Lim (x :: l)) : 0 ≤ x ∧ x ≤ 4294967295 := h x (List.mem_cons_self ..)
theorem Lim.tail {x : Int} {l : List Int} (h : Lim (x :: l)) : Lim l := fun y hy => h y (List.mem_cons_of_mem _ hy)
theorem Lim.append {l m : List Int} (h : Lim l) (k : Lim m) : Lim (l ++ m) := by
  intro y hy
  rcases List.mem_append.1 hy with hy | hy
  · exact h y hy
  · exact k y hy
theorem Lim.take {l : List Int} (h : Lim l) (n : Nat) : Lim (l.take n) := fun y hy => h y (List.mem_of_mem_take hy)
theorem Lim.drop {l : List Int} (h : Lim l) (n : Nat) : Lim (l.drop n) := fun y hy => h y (List.mem_of_mem_drop hy)
theorem Lim.get {l : List Int} (h : Lim l) (i : Nat) : 0 ≤ l.getD i 0 ∧ l.getD i 0 ≤ 4294967295 := by
  rw [List.getD_eq_getElem?_getD]
  by_cases hi : i < l.length
  · rw [List.getElem?_eq_getElem hi]; exact h _ (List.getElem_mem hi)
  · rw [List.getElem?_eq_none (by omega)]; simp
theorem Lim.set {l : List Int} (h : Lim l) (i : Nat) {x : Int} (h0 : 0 ≤ x) (h1 : x ≤ 4294967295) : Lim (l.set i x) := by
  intro y hy
  rcases List.mem_or_eq_of_mem_set hy with hy | rfl
  · exact h y hy
  · exact ⟨h0, h1⟩
theorem Lim.replicate (n : Nat) : Lim (List.replicate n 0) := by
  intro y hy
  have := List.eq_of_mem_replicate hy
  omega
theorem val_append (l m : List Int) : val (l ++ m) = val l + 4294967296 ^ l.length * val m := by
  induction l with
  | nil => simp [val]
  | cons x l ih => simp only [List.cons_append, val, ih, List.length_cons, Nat.pow_succ]; grind
theorem val_replicate (n : Nat) : val (List.replicate n 0) = 0 := by
  induction n with
  | zero => rfl
  | succ n ih => simp [List.replicate_succ, val, ih]
theorem val_lt {l : List Int} (h : Lim l) : val l < 4294967296 ^ l.length := by
  induction l with
  | nil => simp [val]
  | cons x l ih =>
    have h1 := ih h.tail
    have h2 := h.head
    simp only [val, List.length_cons, Nat.pow_succ]
    omega
theorem val_take_drop (l : List Int) (n : Nat) (h : n ≤ l.length) : val l = val (l.take n) + 4294967296 ^ n * val (l.drop n) := by
  have := val_append (l.take n) (l.drop n)
  rw [List.take_append_drop] at this
  rw [this, List.length_take, Nat.min_eq_left h]
theorem val_snoc (l : List Int) (x : Int) : val (l ++ [x]) = val l + 4294967296 ^ l.length * x.toNat := by
  rw [val_append]; simp [val]
theorem val_take_succ (l : List Int) (n : Nat) (h : n < l.length) : val (l.take (n + 1)) = val (l.take n) + 4294967296 ^ n * (l.getD n 0).toNat := by
  rw [List.take_succ_eq_append_getElem h, val_snoc, List.length_take, Nat.min_eq_left (Nat.le_of_lt h), List.getD_eq_getElem?_getD, List.getElem?_eq_getElem h]; rfl
theorem val_set (l : List Int) (i : Nat) (x : Int) (h : i < l.length) : val (l.set i x) + 4294967296 ^ i * (l.getD i 0).toNat = val l + 4294967296 ^ i * x.toNat := by
  induction l generalizing i with
  | nil => simp at h
  | cons y l ih =>
    cases i with
    | zero => simp [val]; omega
    | succ i =>
      have := ih i (by simpa using h)
      simp only [List.set_cons_succ, val, List.getD_cons_succ, Nat.pow_succ]
      grind
/-- The limbs of a number, in normal form. -/
def limbs (n : Nat) : List Int := if h : n = 0 then [] else ((n % 4294967296 : Nat) : Int) :: limbs (n / 4294967296)
termination_by n
decreasing_by omega
theorem limbs_zero : limbs 0 = [] := by rw [limbs]; simp
theorem limbs_pos {n : Nat} (h : n ≠ 0) : limbs n = ((n % 4294967296 : Nat) : Int) :: limbs (n / 4294967296) := by rw [limbs, dif_neg h]
theorem val_limbs (n : Nat) : val (limbs n) = n := by
  induction n using Nat.strongRecOn with
  | _ n ih =>
    by_cases h : n = 0
    · subst h; rw [limbs_zero]; rfl
    · rw [limbs_pos h]
      simp only [val, ih (n / 4294967296) (by omega)]
      omega
theorem limbs_lim (n : Nat) : Lim (limbs n) := by
  induction n using Nat.strongRecOn with
  | _ n ih =>
    by_cases h : n = 0
    · subst h; rw [limbs_zero]; exact Lim.nil
    · rw [limbs_pos h]
      exact Lim.cons (by omega) (by omega) (ih _ (by omega))
/-- Normal: no high zero limb. -/
def Nrm (l : List Int) : Prop := l = [] ∨ l.getLast? ≠ some 0
theorem limbs_val {l : List Int} (h : Lim l) (hn : l = [] ∨ ∀ x, l.getLast? = some x → x ≠ 0) : limbs (val l) = l := by
  induction l with
  | nil => rw [val, limbs_zero]
  | cons x l ih =>
    have h1 := h.head
    have hv : val (x :: l) ≠ 0 := by
      cases l with
      | nil =>
        rcases hn with hn | hn
        · cases hn
        · have := hn x (by simp)
          simp only [val]; omega
      | cons y l =>
        have h2 : val (y :: l) ≠ 0 := by
          intro h0
          have h3 := ih h.tail (.inr fun z hz => by
            rcases hn with hn | hn
            · cases hn
            · exact hn z (by simpa using hz))
          rw [h0, limbs_zero] at h3
          cases h3
        simp only [val] at h2 ⊢; omega
    rw [limbs_pos hv]
    have h2 : (val (x :: l) % 4294967296 : Nat) = x.toNat := by simp only [val]; omega
    have h3 : val (x :: l) / 4294967296 = val l := by simp only [val]; omega
    rw [h2, h3]
    congr 1
    · omega
    · cases l with
      | nil => rw [val, limbs_zero]
      | cons y l => exact ih h.tail (.inr fun z hz => by
            rcases hn with hn | hn
            · cases hn
            · exact hn z (by simpa using hz))
theorem limbs_last (n : Nat) : ∀ x, (limbs n).getLast? = some x → x ≠ 0 := by
  induction n using Nat.strongRecOn with
  | _ n ih =>
    intro x hx
    by_cases h : n = 0
    · subst h; rw [limbs_zero] at hx; cases hx
    · rw [limbs_pos h] at hx
      by_cases hd : n / 4294967296 = 0
      · rw [hd, limbs_zero] at hx
        simp at hx
        omega
      · have := ih (n / 4294967296) (by omega) x
        apply this
        rw [limbs_pos hd] at hx ⊢
        simpa using hx
theorem limbs_length_le {n k : Nat} (h : n < 4294967296 ^ k) : (limbs n).length ≤ k := by
  induction k generalizing n with
  | zero => have : n = 0 := by simpa using h
            subst this; rw [limbs_zero]; simp
  | succ k ih =>
    by_cases h0 : n = 0
    · subst h0; rw [limbs_zero]; simp
    · rw [limbs_pos h0]
      have := ih (n := n / 4294967296) (by rw [Nat.div_lt_iff_lt_mul (by decide)]; rwa [Nat.pow_succ] at h)
      simp; omega
theorem limbs_length_lt {n k : Nat} (h : 4294967296 ^ k ≤ n) : k < (limbs n).length := by
  have h1 := val_lt (limbs_lim n)
  rw [val_limbs] at h1
  exact (Nat.pow_lt_pow_iff_right (by decide : 1 < 4294967296)).1 (Nat.lt_of_le_of_lt h h1)
theorem limbs_inj {m n : Nat} (h : limbs m = limbs n) : m = n := by rw [← val_limbs m, h, val_limbs]
theorem limbs_nil {n : Nat} : limbs n = [] ↔ n = 0 := ⟨fun h => by rw [← val_limbs n, h]; rfl, fun h => by rw [h, limbs_zero]⟩
/-- A number's top limb. -/
theorem val_top {l : List Int} {k : Nat} (hk : l.length = k + 1) (hl : Lim l) (h : l.getD k 0 ≠ 0) : 4294967296 ^ k ≤ val l := by
  have h1 := val_take_drop l k (by omega)
  have h2 : val (l.drop k) = (l.getD k 0).toNat := by
    rw [List.drop_eq_getElem_cons (by omega), List.drop_eq_nil_of_le (by omega), List.getD_eq_getElem?_getD, List.getElem?_eq_getElem (by omega)]
    simp [val]
  have h3 := hl.get k
  have h4 : 1 ≤ (l.getD k 0).toNat := by omega
  have h5 : 4294967296 ^ k * 1 ≤ 4294967296 ^ k * (l.getD k 0).toNat := Nat.mul_le_mul_left _ h4
  rw [h1, h2]; omega
/-- Cutting high zero limbs gives the normal form. -/
theorem limbs_of_cut {l : List Int} {k : Nat} (hl : Lim l) (hk : k ≤ l.length) (hz : ∀ i, k ≤ i → i < l.length → l.getD i 0 = 0) (ht : k = 0 ∨ l.getD (k - 1) 0 ≠ 0) : l.take k = limbs (val l) := by
  have h1 : val l = val (l.take k) := by
    rw [val_take_drop l k hk]
    have : val (l.drop k) = 0 := by
      have : l.drop k = List.replicate (l.length - k) 0 := by
        apply List.ext_getElem
        · simp
        · intro i h1 h2
          have h3 := hz (k + i) (by omega) (by simp at h1; omega)
          rw [List.getD_eq_getElem?_getD, List.getElem?_eq_getElem (by simp at h1; omega)] at h3
          simpa using h3
      rw [this, val_replicate]
    rw [this]; rfl
  rw [h1]
  refine (limbs_val (hl.take k) ?_).symm
  rcases ht with rfl | ht
  · left; simp
  · by_cases hk0 : k = 0
    · subst hk0; left; simp
    right
    intro x hx
    rw [List.getLast?_eq_getElem?, List.length_take, Nat.min_eq_left hk, List.getElem?_take, if_pos (by omega)] at hx
    rw [List.getD_eq_getElem?_getD, hx] at ht
    simpa using ht
theorem limbs_mono {m n : Nat} (h : m ≤ n) : (limbs m).length ≤ (limbs n).length := by
  have h1 := val_lt (limbs_lim n)
  rw [val_limbs] at h1
  exact limbs_length_le (Nat.lt_of_le_of_lt h h1)
theorem lt_of_limbs {m n : Nat} (h : (limbs m).length < (limbs n).length) : m < n := by
  rcases Nat.lt_or_ge m n with h' | h'
  · exact h'
  · have := limbs_mono h'; omega
/-- The highest limb that differs decides. -/
theorem val_lt_of_limb {x y : List Int} (hx : Lim x) (hy : Lim y) (hl : x.length = y.length) {i : Nat} (hi : i < x.length) (he : ∀ j, i < j → j < x.length → x.getD j 0 = y.getD j 0) (h : x.getD i 0 < y.getD i 0) : val x < val y := by
  have hd : x.drop (i + 1) = y.drop (i + 1) := by
    apply List.ext_getElem
    · simp [hl]
    · intro j h1 h2
      have h3 := he (i + 1 + j) (by omega) (by simp at h1; omega)
      rw [List.getD_eq_getElem?_getD, List.getD_eq_getElem?_getD, List.getElem?_eq_getElem (by simp at h1; omega), List.getElem?_eq_getElem (by simp at h2; omega)] at h3
      simpa using h3
  have h1 := val_take_drop x (i + 1) (by omega)
  have h2 := val_take_drop y (i + 1) (by omega)
  rw [hd] at h1
  have h3 := val_take_succ x i hi
  have h4 := val_take_succ y i (by omega)
  have h5 := val_lt (hx.take i)
  rw [List.length_take, Nat.min_eq_left (by omega)] at h5
  have h6 := hx.get i
  have h7 := hy.get i
  have h8 : (x.getD i 0).toNat + 1 ≤ (y.getD i 0).toNat := by omega
  have h9 : 4294967296 ^ i * ((x.getD i 0).toNat + 1) ≤ 4294967296 ^ i * (y.getD i 0).toNat := Nat.mul_le_mul_left _ h8
  rw [Nat.mul_add] at h9
  omega
theorem eq_of_getD {x y : List Int} (hl : x.length = y.length) (he : ∀ j, j < x.length → x.getD j 0 = y.getD j 0) : x = y := by
  apply List.ext_getElem hl
  intro j h1 h2
  have h3 := he j h1
  rw [List.getD_eq_getElem?_getD, List.getD_eq_getElem?_getD, List.getElem?_eq_getElem h1, List.getElem?_eq_getElem h2] at h3
  simpa using h3
/-- -1, 0 or 1. -/
def cmpN (m n : Nat) : Int := if m < n then -1 else if n < m then 1 else 0
/-- How many bits a number has. -/
def bitsN (n : Nat) : Nat := if n = 0 then 0 else Nat.log2 n + 1
theorem bitsN_eq {n k : Nat} (h1 : 2 ^ k ≤ n) (h2 : n < 2 ^ (k + 1)) : bitsN n = k + 1 := by
  have h0 : n ≠ 0 := by have := Nat.two_pow_pos k; omega
  unfold bitsN
  rw [if_neg h0, (Nat.log2_eq_iff h0).2 ⟨h1, h2⟩]
theorem bitsN_lo {n : Nat} (h : n ≠ 0) : 2 ^ (bitsN n - 1) ≤ n := by
  unfold bitsN
  rw [if_neg h, Nat.add_sub_cancel]
  exact Nat.log2_self_le h
theorem bitsN_hi (n : Nat) : n < 2 ^ bitsN n := by
  unfold bitsN
  by_cases h : n = 0
  · subst h; simp
  · rw [if_neg h]; exact Nat.lt_log2_self
theorem bitsN_pos {n : Nat} (h : n ≠ 0) : 0 < bitsN n := by unfold bitsN; rw [if_neg h]; omega
theorem bitsN_zero {n : Nat} : bitsN n = 0 ↔ n = 0 := ⟨fun h => by
  rcases Nat.eq_zero_or_pos n with h0 | h0
  · exact h0
  · have := bitsN_pos (n := n) (by omega); omega, fun h => by subst h; rfl⟩
theorem pow32 (k : Nat) : (4294967296 : Nat) ^ k = 2 ^ (32 * k) := by rw [Nat.pow_mul]
/-- The bits of a number by its highest limb. -/
theorem bitsN_top {xs : List Int} (hl : Lim xs) {k b : Nat} (hk : xs.length = k + 1) (h1 : 2 ^ b ≤ (xs.getD k 0).toNat) (h2 : (xs.getD k 0).toNat < 2 ^ (b + 1)) : bitsN (val xs) = 32 * k + b + 1 := by
  have h3 := val_take_succ xs k (by omega)
  rw [← hk, List.take_length] at h3
  have h4 := val_lt (hl.take k)
  rw [List.length_take, Nat.min_eq_left (by omega), pow32] at h4
  rw [pow32] at h3
  refine bitsN_eq ?_ ?_
  · rw [h3, Nat.pow_add]
    have := Nat.mul_le_mul_left (2 ^ (32 * k)) h1
    omega
  · rw [h3, Nat.add_assoc, Nat.pow_add]
    have h5 : 2 ^ (32 * k) * ((xs.getD k 0).toNat + 1) ≤ 2 ^ (32 * k) * 2 ^ (b + 1) := Nat.mul_le_mul_left _ h2
    rw [Nat.mul_add] at h5
    omega
/-- A number in normal form has its highest limb above 0. -/
theorem limbs_top {n k : Nat} (h : (limbs n).length = k + 1) : (limbs n).getD k 0 ≠ 0 := by
  apply limbs_last n
  rw [List.getLast?_eq_getElem?, h, Nat.add_sub_cancel, List.getD_eq_getElem?_getD, List.getElem?_eq_getElem (by omega)]
  rfl
theorem val_two {xs : List Int} (h : xs.length ≤ 2) : val xs = (xs.getD 0 0).toNat + 4294967296 * (xs.getD 1 0).toNat := by
  match xs, h with
  | [], _ => simp [val]
  | [x], _ => simp [val]
  | [x, y], _ => simp [val]
end Go.Proofs.YtkbgdiejjabdmaaDoor
-- Knuth
namespace Go.Proofs.YtkbgdiejjabdmaaDoor
/-- The quotient of the highest limbs is never too small. -/
theorem kn_first {B W v1 v0 vr head u0 ur q V U : Nat} (hV : V = (v1 * B + v0) * W + vr) (hU : U = (head * B + u0) * W + ur) (hur : ur < W) (hu0 : u0 < B) (hq : q * V ≤ U) : q * v1 ≤ head := by
  rcases Nat.lt_or_ge head (q * v1) with h | h
  · exfalso
    have h1 : (head + 1) * (B * W) ≤ q * v1 * (B * W) := Nat.mul_le_mul_right _ h
    have h2 : q * V = q * v1 * (B * W) + q * v0 * W + q * vr := by subst hV; grind
    have h3 : (head + 1) * (B * W) = head * B * W + B * W := by grind
    have h4 : U = head * B * W + u0 * W + ur := by subst hU; grind
    have h5 : (u0 + 1) * W ≤ B * W := Nat.mul_le_mul_right _ hu0
    have h6 : (u0 + 1) * W = u0 * W + W := by grind
    omega
  · exact h
/-- A digit that fails the test is too great. -/
theorem kn_test {B W v1 v0 vr head u0 ur q d r V U : Nat} (hV : V = (v1 * B + v0) * W + vr) (hU : U = (head * B + u0) * W + ur) (hur : ur < W) (hq : q * V ≤ U) (hd : d * v1 + r = head) (ht : r * B + u0 < d * v0) (hqd : q ≤ d) : q + 1 ≤ d := by
  rcases Nat.lt_or_ge q d with h | h
  · exact h
  · exfalso
    obtain rfl : q = d := by omega
    have h1 : q * V = q * v1 * B * W + q * v0 * W + q * vr := by subst hV; grind
    have h2 : U = q * v1 * B * W + (r * B + u0) * W + ur := by subst hU; subst hd; grind
    have h3 : (r * B + u0 + 1) * W ≤ q * v0 * W := Nat.mul_le_mul_right _ ht
    have h4 : (r * B + u0 + 1) * W = (r * B + u0) * W + W := by grind
    omega
/-- A digit that passes it is at most one too great. -/
theorem kn_last {B W v1 v0 vr head u0 ur d r V U : Nat} (hV : V = (v1 * B + v0) * W + vr) (hvr : vr < W) (hU : U = (head * B + u0) * W + ur) (hd : d * v1 + r = head) (ht : d * v0 ≤ r * B + u0) (hdB : d ≤ B) (hv : 1 ≤ v1) (hB : 0 < B) : d * V < U + V := by
  have h1 : d * V = d * v1 * B * W + d * v0 * W + d * vr := by subst hV; grind
  have h2 : U = d * v1 * B * W + (r * B + u0) * W + ur := by subst hU; subst hd; grind
  have h3 : d * v0 * W ≤ (r * B + u0) * W := Nat.mul_le_mul_right _ ht
  have h4 : V = v1 * (B * W) + v0 * W + vr := by subst hV; grind
  have h5 : 1 * (B * W) ≤ v1 * (B * W) := Nat.mul_le_mul_right _ hv
  have h6 : d * vr ≤ B * vr := Nat.mul_le_mul_right _ hdB
  have h7 : B * (vr + 1) ≤ B * W := Nat.mul_le_mul_left _ hvr
  have h8 : B * (vr + 1) = B * vr + B := by grind
  omega
end Go.Proofs.YtkbgdiejjabdmaaDoor
-- AddP
namespace Go.Proofs.YtkbgdiejjabdmaaDoor

theorem val_take_succ' (l : List Int) (n : Nat) : val (l.take (n + 1)) = val (l.take n) + 4294967296 ^ n * (l.getD n 0).toNat := by
  by_cases h : n < l.length
  · exact val_take_succ l n h
  · rw [List.take_of_length_le (by omega), List.take_of_length_le (by omega), List.getD_eq_getElem?_getD, List.getElem?_eq_none (by omega)]
    simp
/-- The sum so far: the limbs xs and a carry. -/
structure AddSt (x y : List Int) (k : Nat) (xs : List Int) (c : Int) : Prop where
  len : xs.length = k
  lim : Lim xs
  lo : 0 ≤ c
  hi : c ≤ 1
  eq : val xs + 4294967296 ^ k * c.toNat = val (x.take k) + val (y.take k)
theorem AddSt.start (x y : List Int) : AddSt x y 0 [] 0 := ⟨rfl, Lim.nil, by omega, by omega, by simp [val]⟩
theorem AddSt.next {x y : List Int} {k : Nat} {xs : List Int} {c : Int} (h : AddSt x y k xs c) (hx : Lim x) (hy : Lim y) : AddSt x y (k + 1) (xs ++ [(c + x.getD k 0 + y.getD k 0) % 4294967296]) ((c + x.getD k 0 + y.getD k 0) / 4294967296) := by
  have h1 := hx.get k
  have h2 := hy.get k
  have h3 := h.lo
  have h4 := h.hi
  refine ⟨by simp [h.len], h.lim.append (Lim.cons (by omega) (by omega) Lim.nil), by omega, by omega, ?_⟩
  rw [val_snoc, h.len, val_take_succ', val_take_succ', Nat.pow_succ]
  have h5 := h.eq
  have h6 : (c + x.getD k 0 + y.getD k 0).toNat = c.toNat + (x.getD k 0).toNat + (y.getD k 0).toNat := by omega
  have h7 : ((c + x.getD k 0 + y.getD k 0) % 4294967296).toNat + 4294967296 * ((c + x.getD k 0 + y.getD k 0) / 4294967296).toNat = c.toNat + (x.getD k 0).toNat + (y.getD k 0).toNat := by omega
  have h8 : 4294967296 ^ k * (((c + x.getD k 0 + y.getD k 0) % 4294967296).toNat + 4294967296 * ((c + x.getD k 0 + y.getD k 0) / 4294967296).toNat) = 4294967296 ^ k * (c.toNat + (x.getD k 0).toNat + (y.getD k 0).toNat) := by rw [h7]
  rw [Nat.mul_add, Nat.mul_add, Nat.mul_add] at h8
  rw [Nat.mul_assoc]
  omega
/-- Limbs with the highest one above 0 are in normal form. -/
theorem limbs_full {xs : List Int} (h : Lim xs) (hb : xs = [] ∨ 4294967296 ^ (xs.length - 1) ≤ val xs) : limbs (val xs) = xs := by
  rcases hb with rfl | hb
  · exact limbs_zero
  · refine limbs_val h ?_
    by_cases h0 : xs = []
    · exact .inl h0
    · right
      intro z hz hz0
      subst hz0
      obtain ⟨k, hk⟩ : ∃ k, xs.length = k + 1 := ⟨xs.length - 1, by have := List.length_pos_iff.2 h0; omega⟩
      rw [List.getLast?_eq_getElem?, hk, Nat.add_sub_cancel] at hz
      have h1 := val_take_succ' xs k
      rw [← hk, List.take_length, List.getD_eq_getElem?_getD, hz] at h1
      have h2 := val_lt (h.take k)
      rw [List.length_take, Nat.min_eq_left (by omega)] at h2
      rw [hk, Nat.add_sub_cancel] at hb
      simp at h1
      omega
theorem limbs_ge {n k : Nat} (h : (limbs n).length = k + 1) : 4294967296 ^ k ≤ n := by
  have h1 := val_top (k := k) h (limbs_lim n) (by
    have h2 := limbs_last n
    rw [List.getLast?_eq_getElem?, h, Nat.add_sub_cancel] at h2
    rw [List.getD_eq_getElem?_getD]
    cases hg : (limbs n)[k]? with
    | none => rw [List.getElem?_eq_none_iff] at hg; omega
    | some z => exact h2 z hg)
  rwa [val_limbs] at h1
theorem AddSt.done0 {m n : Nat} {xs : List Int} (h : AddSt (limbs m) (limbs n) (limbs m).length xs 0) (hl : (limbs n).length ≤ (limbs m).length) : xs = limbs (m + n) := by
  have h1 := h.eq
  rw [List.take_length, List.take_of_length_le hl, val_limbs, val_limbs] at h1
  simp only [Int.toNat_zero, Nat.mul_zero, Nat.add_zero] at h1
  rw [← h1]
  refine (limbs_full h.lim ?_).symm
  by_cases h0 : xs.length = 0
  · exact .inl (List.eq_nil_of_length_eq_zero h0)
  · right
    obtain ⟨k, hk⟩ : ∃ k, xs.length = k + 1 := ⟨xs.length - 1, by omega⟩
    have := limbs_ge (n := m) (k := k) (by rw [← h.len, hk])
    rw [hk, Nat.add_sub_cancel]
    omega
theorem AddSt.done1 {m n : Nat} {xs : List Int} {c : Int} (h : AddSt (limbs m) (limbs n) (limbs m).length xs c) (hl : (limbs n).length ≤ (limbs m).length) (hc : 0 < c) : xs ++ [c] = limbs (m + n) := by
  have h1 := h.eq
  have hc1 : c = 1 := by have := h.hi; omega
  subst hc1
  rw [List.take_length, List.take_of_length_le hl, val_limbs, val_limbs] at h1
  have h2 : val (xs ++ [1]) = m + n := by rw [val_snoc, ← h1, h.len]
  rw [← h2]
  refine (limbs_full (h.lim.append (Lim.cons (by omega) (by omega) Lim.nil)) (.inr ?_)).symm
  rw [val_snoc, List.length_append, List.length_singleton, Nat.add_sub_cancel]
  simp
/-- The difference so far: the limbs d, of which k are done, and a borrow. -/
structure SubSt (x y : List Int) (k : Nat) (d : List Int) (b : Int) : Prop where
  len : d.length = x.length
  lim : Lim d
  lo : 0 ≤ b
  hi : b ≤ 1
  eq : val (x.take k) + 4294967296 ^ k * b.toNat = val (d.take k) + val (y.take k)
theorem SubSt.start (x y : List Int) : SubSt x y 0 (List.replicate x.length 0) 0 := ⟨by simp, Lim.replicate _, by omega, by omega, by simp [val]⟩
theorem val_take_set {d : List Int} {k : Nat} (hk : k < d.length) (z : Int) : val ((d.set k z).take (k + 1)) = val (d.take k) + 4294967296 ^ k * z.toNat := by
  rw [val_take_succ', List.take_set_of_le (Nat.le_refl k)]
  congr 2
  rw [List.getD_eq_getElem?_getD, List.getElem?_set_self hk]
  rfl
theorem SubSt.next {x y d : List Int} {k : Nat} {b : Int} (h : SubSt x y k d b) (hx : Lim x) (hy : Lim y) (hk : k < x.length) {z b' : Int} (hz : x.getD k 0 + 4294967296 * b' = z + (b + y.getD k 0)) (z0 : 0 ≤ z) (z1 : z ≤ 4294967295) (l0 : 0 ≤ b') (l1 : b' ≤ 1) : SubSt x y (k + 1) (d.set k z) b' := by
  have h1 := hx.get k
  have h2 := hy.get k
  have h3 := h.lo
  have h5 := h.eq
  refine ⟨by simp [h.len], h.lim.set k z0 z1, l0, l1, ?_⟩
  rw [val_take_set (by rw [h.len]; exact hk), val_take_succ' x, val_take_succ' y, Nat.pow_succ]
  have h7 : (x.getD k 0).toNat + 4294967296 * b'.toNat = z.toNat + (b.toNat + (y.getD k 0).toNat) := by omega
  have h8 : 4294967296 ^ k * ((x.getD k 0).toNat + 4294967296 * b'.toNat) = 4294967296 ^ k * (z.toNat + (b.toNat + (y.getD k 0).toNat)) := by rw [h7]
  rw [Nat.mul_add, Nat.mul_add, Nat.mul_add] at h8
  rw [Nat.mul_assoc]
  omega
theorem SubSt.done {m n : Nat} {d : List Int} {b : Int} (h : SubSt (limbs m) (limbs n) (limbs m).length d b) (hmn : n ≤ m) : val d = m - n := by
  have h1 := h.eq
  have hl : (limbs n).length ≤ (limbs m).length := limbs_mono hmn
  rw [List.take_length, List.take_of_length_le hl, val_limbs, val_limbs, ← h.len, List.take_length] at h1
  have h2 := val_lt h.lim
  have h3 := h.lo
  by_cases hb : b = 0
  · subst hb; simp at h1; omega
  · have hb1 : b = 1 := by have := h.hi; omega
    subst hb1
    simp at h1
    omega
end Go.Proofs.YtkbgdiejjabdmaaDoor
-- MulP
namespace Go.Proofs.YtkbgdiejjabdmaaDoor

theorem mul_step {P Bi Bk p q D c lo hi V V' b vy : Nat} (hP : P = Bi * Bk) (ht : lo + 4294967296 * hi = c + (p * q + D)) (h1 : V' + P * D = V + P * lo) (h2 : V + P * c = b + Bi * p * vy) : V' + P * 4294967296 * hi = b + Bi * p * (vy + Bk * q) := by
  have h3 : P * (lo + 4294967296 * hi) = P * (c + (p * q + D)) := by rw [ht]
  have h4 : P * lo + P * 4294967296 * hi = P * c + P * (p * q) + P * D := by grind
  have h5 : Bi * p * (vy + Bk * q) = Bi * p * vy + P * (p * q) := by subst hP; grind
  omega
structure MulO (x y : List Int) (i : Nat) (d : List Int) : Prop where
  len : d.length = x.length + y.length
  lim : Lim d
  eq : val d = val (x.take i) * val y
  zero : ∀ j, i + y.length ≤ j → d.getD j 0 = 0
structure MulI (x y : List Int) (i k : Nat) (d : List Int) (c : Int) : Prop where
  len : d.length = x.length + y.length
  lim : Lim d
  lo : 0 ≤ c
  hi : c ≤ 4294967295
  eq : val d + 4294967296 ^ (i + k) * c.toNat = val (x.take i) * val y + 4294967296 ^ i * (x.getD i 0).toNat * val (y.take k)
  zero : ∀ j, i + y.length ≤ j → d.getD j 0 = 0
theorem MulO.start (x y : List Int) : MulO x y 0 (List.replicate (x.length + y.length) 0) := ⟨by simp, Lim.replicate _, by simp [val, val_replicate], fun j _ => by
  rw [List.getD_eq_getElem?_getD, List.getElem?_replicate]
  split <;> rfl⟩
theorem MulI.start {x y d : List Int} {i : Nat} (h : MulO x y i d) : MulI x y i 0 d 0 := ⟨h.len, h.lim, by omega, by omega, by simp [h.eq, val], h.zero⟩
theorem getD_set_ne' {d : List Int} {i j : Nat} {z : Int} (h : i ≠ j) : (d.set i z).getD j 0 = d.getD j 0 := by
  rw [List.getD_eq_getElem?_getD, List.getD_eq_getElem?_getD, List.getElem?_set_ne h]
theorem mul_bound {p q : Int} (hp0 : 0 ≤ p) (hp1 : p ≤ 4294967295) (hq0 : 0 ≤ q) (hq1 : q ≤ 4294967295) : 0 ≤ p * q ∧ p * q ≤ 18446744065119617025 := by
  refine ⟨Int.mul_nonneg hp0 hq0, ?_⟩
  have h1 : p * q ≤ 4294967295 * q := Int.mul_le_mul_of_nonneg_right hp1 hq0
  omega
theorem MulI.next {x y d : List Int} {i k : Nat} {c t : Int} (h : MulI x y i k d c) (hx : Lim x) (hy : Lim y) (hi : i < x.length) (hk : k < y.length) (ht : t = c + (x.getD i 0 * y.getD k 0 + d.getD (i + k) 0)) :
    MulI x y i (k + 1) (d.set (i + k) (t % 4294967296)) (t / 4294967296) := by
  have p := hx.get i
  have q := hy.get k
  have D := h.lim.get (i + k)
  have b := mul_bound p.1 p.2 q.1 q.2
  have c0 := h.lo
  have c1 := h.hi
  refine ⟨by simp [h.len], h.lim.set _ (by omega) (by omega), by omega, by omega, ?_, fun j hj => by rw [getD_set_ne' (by omega)]; exact h.zero j hj⟩
  have h1 := val_set d (i + k) (t % 4294967296) (by rw [h.len]; omega)
  have h2 := h.eq
  have hpq : (x.getD i 0 * y.getD k 0).toNat = (x.getD i 0).toNat * (y.getD k 0).toNat := Int.toNat_mul p.1 q.1
  have h3 : (t % 4294967296).toNat + 4294967296 * (t / 4294967296).toNat = c.toNat + ((x.getD i 0).toNat * (y.getD k 0).toNat + (d.getD (i + k) 0).toNat) := by
    rw [← hpq]; omega
  have h4 := mul_step (Nat.pow_add 4294967296 i k) h3 h1 h2
  rw [val_take_succ' y, show i + (k + 1) = i + k + 1 by omega, Nat.pow_succ]
  exact h4
theorem MulI.done {x y d : List Int} {i : Nat} {c : Int} (h : MulI x y i y.length d c) (hi : i < x.length) : MulO x y (i + 1) (d.set (i + y.length) c) := by
  refine ⟨by simp [h.len], h.lim.set _ h.lo h.hi, ?_, fun j hj => by rw [getD_set_ne' (by omega)]; exact h.zero j (by omega)⟩
  have h1 := val_set d (i + y.length) c (by rw [h.len]; omega)
  have h2 := h.eq
  rw [h.zero (i + y.length) (Nat.le_refl _)] at h1
  rw [List.take_length] at h2
  rw [val_take_succ' x, Nat.add_mul]
  simp at h1
  omega
theorem MulO.done {x y d : List Int} (h : MulO x y x.length d) : val d = val x * val y := by
  rw [h.eq, List.take_length]
theorem limbs_mul_len (m n : Nat) {L K : Nat} (h1 : (limbs m).length ≤ L) (h2 : (limbs n).length ≤ K) : (limbs (m * n)).length ≤ L + K := by
  have h3 := val_lt (limbs_lim m)
  have h4 := val_lt (limbs_lim n)
  rw [val_limbs] at h3 h4
  have h5 : (4294967296 : Nat) ^ (limbs m).length ≤ 4294967296 ^ L := Nat.pow_le_pow_right (by decide) h1
  have h6 : (4294967296 : Nat) ^ (limbs n).length ≤ 4294967296 ^ K := Nat.pow_le_pow_right (by decide) h2
  refine limbs_length_le ?_
  rw [Nat.pow_add]
  have h7 : 0 < (4294967296 : Nat) ^ K := Nat.pow_pos (by decide)
  have h8 : m * n ≤ m * 4294967296 ^ K := Nat.mul_le_mul_left _ (by omega)
  have h9 : (m + 1) * 4294967296 ^ K ≤ 4294967296 ^ L * 4294967296 ^ K := Nat.mul_le_mul_right _ (by omega)
  rw [Nat.add_mul] at h9
  omega
end Go.Proofs.YtkbgdiejjabdmaaDoor
-- ParseP
namespace Go.Proofs.YtkbgdiejjabdmaaDoor

structure ScS (x : List Int) (b p : Int) (k : Nat) (xs : List Int) (c : Int) : Prop where
  len : xs.length = k
  lim : Lim xs
  lo : 0 ≤ c
  hi : c ≤ 4294967295
  eq : val xs + 4294967296 ^ k * c.toNat = val (x.take k) * b.toNat + p.toNat
theorem ScS.start (x : List Int) (b : Int) {p : Int} (h0 : 0 ≤ p) (h1 : p ≤ 4294967295) : ScS x b p 0 [] p := ⟨rfl, Lim.nil, h0, h1, by simp [val]⟩
theorem ScS.next {x xs : List Int} {b p c t : Int} {k : Nat} (h : ScS x b p k xs c) (hx : Lim x) (b0 : 0 ≤ b) (b1 : b ≤ 4294967295) (ht : t = c + x.getD k 0 * b) : ScS x b p (k + 1) (xs ++ [t % 4294967296]) (t / 4294967296) := by
  have q := hx.get k
  have m := mul_bound q.1 q.2 b0 b1
  have c0 := h.lo
  have c1 := h.hi
  refine ⟨by simp [h.len], h.lim.append (Lim.cons (by omega) (by omega) Lim.nil), by omega, by omega, ?_⟩
  rw [val_snoc, h.len, val_take_succ', Nat.pow_succ, Nat.add_mul]
  have e : (x.getD k 0 * b).toNat = (x.getD k 0).toNat * b.toNat := Int.toNat_mul q.1 b0
  have e1 : (t % 4294967296).toNat + 4294967296 * (t / 4294967296).toNat = c.toNat + (x.getD k 0).toNat * b.toNat := by rw [← e]; omega
  have e2 : 4294967296 ^ k * ((t % 4294967296).toNat + 4294967296 * (t / 4294967296).toNat) = 4294967296 ^ k * (c.toNat + (x.getD k 0).toNat * b.toNat) := by rw [e1]
  have h2 := h.eq
  rw [Nat.mul_add, Nat.mul_add] at e2
  rw [Nat.mul_assoc, Nat.mul_assoc]
  omega
theorem ScS.done0 {n : Nat} {xs : List Int} {b p : Int} (h : ScS (limbs n) b p (limbs n).length xs 0) (hb : 1 ≤ b) : xs = limbs (n * b.toNat + p.toNat) := by
  have h1 := h.eq
  rw [List.take_length, val_limbs] at h1
  simp only [Int.toNat_zero, Nat.mul_zero, Nat.add_zero] at h1
  rw [← h1]
  refine (limbs_full h.lim ?_).symm
  by_cases h0 : xs.length = 0
  · exact .inl (List.eq_nil_of_length_eq_zero h0)
  · right
    obtain ⟨k, hk⟩ : ∃ k, xs.length = k + 1 := ⟨xs.length - 1, by omega⟩
    have := limbs_ge (n := n) (k := k) (by rw [← h.len, hk])
    rw [hk, Nat.add_sub_cancel, h1]
    have h2 : n * 1 ≤ n * b.toNat := Nat.mul_le_mul_left _ (by omega)
    omega
theorem ScS.done1 {n : Nat} {xs : List Int} {b p c : Int} (h : ScS (limbs n) b p (limbs n).length xs c) (hc : 0 < c) : xs ++ [c] = limbs (n * b.toNat + p.toNat) := by
  have h1 := h.eq
  rw [List.take_length, val_limbs] at h1
  have h2 : val (xs ++ [c]) = n * b.toNat + p.toNat := by rw [val_snoc, ← h1, h.len]
  rw [← h2]
  refine (limbs_full (h.lim.append (Lim.cons (by omega) h.hi Lim.nil)) (.inr ?_)).symm
  rw [val_snoc, List.length_append, List.length_singleton, Nat.add_sub_cancel]
  have : 4294967296 ^ xs.length * 1 ≤ 4294967296 ^ xs.length * c.toNat := Nat.mul_le_mul_left _ (by omega)
  omega

/-- What the digits denote. -/
def decVal (l : List UInt8) : Nat := l.foldl (fun n c => n * 10 + (c.toNat - 48)) 0
def isDig (c : UInt8) : Bool := decide (48 ≤ c.toNat) && decide (c.toNat ≤ 57)
/-- The error of Parse: 0, 2 or 5. -/
def pErr (l : List UInt8) : Int := if l = [] ∨ (l.head? = some 48 ∧ 1 < l.length) then 2 else if l.all isDig = false then 2 else if 400 < l.length then 5 else 0
/-- The number that Parse returns. -/
def pVal (l : List UInt8) : Nat := if pErr l = 0 then decVal l else 0
theorem decVal_snoc (l : List UInt8) (c : UInt8) : decVal (l ++ [c]) = decVal l * 10 + (c.toNat - 48) := by simp [decVal]
end Go.Proofs.YtkbgdiejjabdmaaDoor
-- DivP
namespace Go.Proofs.YtkbgdiejjabdmaaDoor

theorem val_drop {l : List Int} {k : Nat} (h : k < l.length) : val (l.drop k) = (l.getD k 0).toNat + 4294967296 * val (l.drop (k + 1)) := by
  rw [List.drop_eq_getElem_cons h, List.getD_eq_getElem?_getD, List.getElem?_eq_getElem h]
  rfl
theorem drop_set_ge {l : List Int} {k : Nat} (z : Int) : (l.set k z).drop (k + 1) = l.drop (k + 1) := by
  rw [List.drop_set_of_lt (by omega)]
theorem getD_set_self {l : List Int} {k : Nat} (h : k < l.length) (z : Int) : (l.set k z).getD k 0 = z := by
  rw [List.getD_eq_getElem?_getD, List.getElem?_set_self h]; rfl
theorem val_drop_set {l : List Int} {k : Nat} (h : k < l.length) (z : Int) : val ((l.set k z).drop k) = z.toNat + 4294967296 * val (l.drop (k + 1)) := by
  rw [val_drop (by simpa using h), getD_set_self h, drop_set_ge]
/-- The quotient Q so far, its limbs from k on, and a rest. -/
structure DivS (a : List Int) (d : Int) (k : Nat) (Q : List Int) (r : Int) : Prop where
  len : Q.length = a.length
  lim : Lim Q
  lo : 0 ≤ r
  hi : r < d
  eq : val (a.drop k) = val (Q.drop k) * d.toNat + r.toNat
theorem DivS.start (a : List Int) {d : Int} (hd : 0 < d) : DivS a d a.length (List.replicate a.length 0) 0 :=
  ⟨by simp, Lim.replicate _, by omega, hd, by simp [val]⟩
theorem DivS.next {a Q : List Int} {d : Int} {k : Nat} {r t : Int} (h : DivS a d (k + 1) Q r) (ha : Lim a) (hk : k < a.length) (hd : d ≤ 4294967296) (ht : t = r * 4294967296 + a.getD k 0) : DivS a d k (Q.set k (t / d)) (t % d) := by
  have h0 := ha.get k
  have h1 := h.lo
  have h2 := h.hi
  have hd0 : 0 < d := by omega
  have ht0 : 0 ≤ t := by omega
  have q0 : 0 ≤ t / d := Int.ediv_nonneg ht0 (by omega)
  have r0 := Int.emod_nonneg t (show d ≠ 0 by omega)
  have r1 := Int.emod_lt_of_pos t hd0
  have hq : t / d < 4294967296 := by
    rw [Int.ediv_lt_iff_lt_mul hd0]
    omega
  have hdm := Int.mul_ediv_add_emod t d
  refine ⟨by simp [h.len], h.lim.set k q0 (by omega), r0, r1, ?_⟩
  rw [val_drop hk, val_drop_set (by rw [h.len]; exact hk), h.eq]
  have e1 : (d * (t / d)).toNat = d.toNat * (t / d).toNat := Int.toNat_mul (by omega) q0
  have e2 : t.toNat = d.toNat * (t / d).toNat + (t % d).toNat := by
    rw [← e1]
    have := Int.mul_nonneg (show 0 ≤ d by omega) q0
    omega
  have e3 : t.toNat = r.toNat * 4294967296 + (a.getD k 0).toNat := by omega
  grind
theorem DivS.done {a Q : List Int} {d r : Int} (h : DivS a d 0 Q r) : val Q = val a / d.toNat ∧ r.toNat = val a % d.toNat := by
  have h1 := h.eq
  have h2 := h.lo
  have h3 := h.hi
  simp only [List.drop_zero] at h1
  rw [h1, Nat.mul_comm]
  refine ⟨?_, ?_⟩
  · rw [Nat.mul_add_div (by omega), Nat.div_eq_of_lt (by omega), Nat.add_zero]
  · rw [Nat.mul_add_mod, Nat.mod_eq_of_lt (by omega)]

/-- A shift upward, k limbs done. -/
structure ShU (a : List Int) (s : Nat) (k : Nat) (d : List Int) (c : Int) : Prop where
  len : d.length = a.length + 1
  lim : Lim d
  lo : 0 ≤ c
  hi : c < 2 ^ s
  eq : val (d.take k) + 4294967296 ^ k * c.toNat = val (a.take k) * 2 ^ s
theorem ShU.start (a : List Int) (s : Nat) : ShU a s 0 (List.replicate (a.length + 1) 0) 0 :=
  ⟨by simp, Lim.replicate _, by omega, Int.pow_pos (by decide), by simp [val]⟩
theorem pow_s {s : Nat} (hs : s < 32) : ∃ p : Nat, (2 : Nat) ^ s = p ∧ (2 : Int) ^ s = (p : Int) ∧ 1 ≤ p ∧ p ≤ 2147483648 ∧ ∃ q, p * q = 4294967296 ∧ 2 ≤ q := by
  refine ⟨2 ^ s, rfl, by simp, Nat.two_pow_pos s, ?_, 2 ^ (32 - s), ?_, ?_⟩
  · exact Nat.pow_le_pow_right (n := 2) (by decide) (show s ≤ 31 by omega)
  · rw [← Nat.pow_add, show s + (32 - s) = 32 by omega]
  · exact Nat.pow_le_pow_right (n := 2) (by decide) (show 1 ≤ 32 - s by omega)
theorem ShU.next {a d : List Int} {s k : Nat} {c t : Int} (h : ShU a s k d c) (ha : Lim a) (hs : s < 32) (hk : k < a.length) (ht : t = c + a.getD k 0 * 2 ^ s) : ShU a s (k + 1) (d.set k (t % 4294967296)) (t / 4294967296) := by
  have h0 := ha.get k
  have h1 := h.lo
  have h2 := h.hi
  have h3 := h.eq
  obtain ⟨p, hp, hpi, p1, p2, _⟩ := pow_s hs
  rw [hpi] at h2 ht
  rw [hp] at h3
  have hm : (a.getD k 0 * (p : Int)).toNat = (a.getD k 0).toNat * p := by rw [Int.toNat_mul h0.1 (by omega)]; simp
  have hm0 : 0 ≤ a.getD k 0 * (p : Int) := Int.mul_nonneg h0.1 (by omega)
  have hm1 : a.getD k 0 * (p : Int) ≤ 4294967295 * p := Int.mul_le_mul_of_nonneg_right h0.2 (by omega)
  refine ⟨by simp [h.len], h.lim.set k (by omega) (by omega), by omega, by rw [hpi]; omega, ?_⟩
  rw [val_take_set (by rw [h.len]; omega), val_take_succ' a, hp, Nat.pow_succ]
  have e1 : (t % 4294967296).toNat + 4294967296 * (t / 4294967296).toNat = c.toNat + (a.getD k 0).toNat * p := by rw [← hm]; omega
  have e2 : 4294967296 ^ k * ((t % 4294967296).toNat + 4294967296 * (t / 4294967296).toNat) = 4294967296 ^ k * (c.toNat + (a.getD k 0).toNat * p) := by rw [e1]
  grind
theorem ShU.done {a d : List Int} {s : Nat} {c : Int} (h : ShU a s a.length d c) (hs : s < 32) : val (d.set a.length c) = val a * 2 ^ s ∧ Lim (d.set a.length c) := by
  have h1 := h.eq
  have h2 := val_take_set (d := d) (k := a.length) (by rw [h.len]; omega) c
  rw [List.take_of_length_le (by simp [h.len])] at h2
  rw [List.take_length] at h1
  obtain ⟨p, hp, hpi, p1, p2, _⟩ := pow_s hs
  have h3 := h.hi
  rw [hpi] at h3
  exact ⟨by rw [h2, h1], h.lim.set _ h.lo (by omega)⟩

/-- A shift downward, k limbs done. -/
structure ShD (a : List Int) (s : Nat) (k : Nat) (d : List Int) : Prop where
  len : d.length = a.length
  lim : Lim d
  eq : val (d.take k) + 4294967296 ^ k * (val (a.drop k) / 2 ^ s) = val a / 2 ^ s
theorem ShD.start (a : List Int) (s : Nat) : ShD a s 0 (List.replicate a.length 0) := ⟨by simp, Lim.replicate _, by simp [val]⟩
theorem val_drop_any (l : List Int) (k : Nat) : val (l.drop k) = (l.getD k 0).toNat + 4294967296 * val (l.drop (k + 1)) := by
  by_cases h : k < l.length
  · exact val_drop h
  · rw [List.drop_eq_nil_of_le (by omega), List.drop_eq_nil_of_le (by omega), List.getD_eq_getElem?_getD, List.getElem?_eq_none (by omega)]
    rfl
theorem shd_step {x y E p q : Nat} (hp : p * q = 4294967296) (p1 : 1 ≤ p) : (x + 4294967296 * (y + 4294967296 * E)) / p % 4294967296 = (x + 4294967296 * y) / p % 4294967296 := by
  have h1 : x + 4294967296 * (y + 4294967296 * E) = x + 4294967296 * y + p * (4294967296 * (q * E)) := by grind
  rw [h1, Nat.add_mul_div_left _ _ (by omega), Nat.add_mul_mod_self_left]
theorem ShD.next {a d : List Int} {s k : Nat} {t : Int} (h : ShD a s k d) (ha : Lim a) (hs : s < 32) (hk : k < a.length) (ht : t = (a.getD k 0 + 4294967296 * a.getD (k + 1) 0) / 2 ^ s % 4294967296) : ShD a s (k + 1) (d.set k t) := by
  have h0 := ha.get k
  have h1 := ha.get (k + 1)
  obtain ⟨p, hp, hpi, p1, p2, q, hpq, _⟩ := pow_s hs
  rw [hpi] at ht
  have t0 : 0 ≤ t := by omega
  have t1 : t ≤ 4294967295 := by omega
  have hd := val_drop_any a k
  have hd2 := val_drop_any a (k + 1)
  have h3 := h.eq
  rw [hp] at h3
  refine ⟨by simp [h.len], h.lim.set k t0 t1, ?_⟩
  rw [val_take_set (by rw [h.len]; exact hk), hp, Nat.pow_succ]
  obtain ⟨x, hx⟩ := Int.eq_ofNat_of_zero_le h0.1
  obtain ⟨y, hy⟩ := Int.eq_ofNat_of_zero_le h1.1
  rw [hx, hy] at ht
  rw [hx] at hd
  rw [hy] at hd2
  have e1 : t.toNat = val (a.drop k) / p % 4294967296 := by
    rw [hd, hd2]
    have := shd_step (x := x) (y := y) (E := val (a.drop (k + 1 + 1))) hpq p1
    simp only [Int.toNat_natCast]
    rw [this]
    have e : ((x : Int) + 4294967296 * y) / p % 4294967296 = (((x + 4294967296 * y) / p % 4294967296 : Nat) : Int) := by rw [Int.natCast_emod, Int.natCast_ediv, Int.natCast_add, Int.natCast_mul]; rfl
    rw [ht, e]
    exact Int.toNat_natCast _
  have e2 : val (a.drop (k + 1)) / p = val (a.drop k) / p / 4294967296 := by
    rw [Nat.div_div_eq_div_mul, Nat.mul_comm p, ← Nat.div_div_eq_div_mul, hd]
    congr 1
    simp only [Int.toNat_natCast]
    omega
  rw [e2, e1]
  have e3 : val (a.drop k) / p = val (a.drop k) / p % 4294967296 + 4294967296 * (val (a.drop k) / p / 4294967296) := by omega
  have e4 : 4294967296 ^ k * (val (a.drop k) / p) = 4294967296 ^ k * (val (a.drop k) / p % 4294967296 + 4294967296 * (val (a.drop k) / p / 4294967296)) := by rw [← e3]
  rw [Nat.mul_add] at e4
  rw [Nat.mul_assoc]
  omega
theorem ShD.done {a d : List Int} {s : Nat} (h : ShD a s a.length d) : val d = val a / 2 ^ s := by
  have h1 := h.eq
  rw [← h.len, List.take_length, h.len, List.drop_length] at h1
  simpa [val] using h1
end Go.Proofs.YtkbgdiejjabdmaaDoor
-- GuessP
namespace Go.Proofs.YtkbgdiejjabdmaaDoor

/-- No digit of the quotient is above d. -/
def Dom (h v1 v0 u0 d : Int) : Prop := ∀ W vr ur q : Nat, vr < W → ur < W → q ≤ 4294967295 → q * ((v1.toNat * 4294967296 + v0.toNat) * W + vr) ≤ (h.toNat * 4294967296 + u0.toNat) * W + ur → (q : Int) ≤ d
structure GuS (h v1 v0 u0 d r : Int) : Prop where
  v1lo : 2147483648 ≤ v1
  v1hi : v1 ≤ 4294967295
  v0lo : 0 ≤ v0
  v0hi : v0 ≤ 4294967295
  u0lo : 0 ≤ u0
  u0hi : u0 ≤ 4294967295
  hhi : h ≤ v1 * 4294967296 + 4294967295
  eq : d * v1 + r = h
  dlo : 0 ≤ d
  rlo : 0 ≤ r
  dom : Dom h v1 v0 u0 d
structure GuE (h v1 v0 u0 d : Int) : Prop where
  lo : 0 ≤ d
  hi : d ≤ 4294967295
  dom : Dom h v1 v0 u0 d
  up : ∃ r : Int, 0 ≤ r ∧ d * v1 + r = h ∧ d * v0 ≤ r * 4294967296 + u0
theorem GuS.start {h v1 v0 u0 : Int} (h1 : 2147483648 ≤ v1) (h2 : v1 ≤ 4294967295) (h3 : 0 ≤ v0) (h4 : v0 ≤ 4294967295) (h5 : 0 ≤ u0) (h6 : u0 ≤ 4294967295) (h0 : 0 ≤ h) (h7 : h ≤ v1 * 4294967296 + 4294967295) :
    GuS h v1 v0 u0 (h / v1) (h % v1) ∧ h % v1 ≤ 4294967295 := by
  have e := Int.mul_ediv_add_emod h v1
  have d0 : 0 ≤ h / v1 := Int.ediv_nonneg h0 (by omega)
  have r0 := Int.emod_nonneg h (show v1 ≠ 0 by omega)
  have r1 := Int.emod_lt_of_pos h (show 0 < v1 by omega)
  refine ⟨⟨h1, h2, h3, h4, h5, h6, h7, by rw [Int.mul_comm]; exact e, d0, r0, ?_⟩, by omega⟩
  intro W vr ur q hv hu _ hq
  have := kn_first (B := 4294967296) rfl rfl hu (by omega) hq
  have h8 : (q : Int) * v1 ≤ h := by
    have h9 : ((q * v1.toNat : Nat) : Int) ≤ (h.toNat : Int) := by exact_mod_cast this
    rw [Int.natCast_mul] at h9
    rw [Int.toNat_of_nonneg (by omega), Int.toNat_of_nonneg h0] at h9
    exact h9
  exact (Int.le_ediv_iff_mul_le (by omega)).2 h8
theorem GuS.next {h v1 v0 u0 d r : Int} (s : GuS h v1 v0 u0 d r) (ht : 4294967295 < d ∨ r * 4294967296 + u0 < d * v0) : GuS h v1 v0 u0 (d - 1) (r + v1) := by
  have h1 := s.v1lo
  have h2 := s.v0lo
  have h3 := s.u0lo
  have h4 := s.dlo
  have h5 := s.rlo
  have hd : 1 ≤ d := by
    rcases ht with ht | ht
    · omega
    · by_cases hd0 : d = 0
      · subst hd0; omega
      · omega
  refine ⟨h1, s.v1hi, h2, s.v0hi, h3, s.u0hi, s.hhi, ?_, by omega, by omega, ?_⟩
  · have := s.eq
    rw [Int.sub_mul]
    omega
  · intro W vr ur q hv hu hqB hq
    have hqd := s.dom W vr ur q hv hu hqB hq
    rcases ht with ht | ht
    · omega
    · have e1 : d.toNat * v1.toNat + r.toNat = h.toNat := by
        have e2 := s.eq
        have e3 : (d * v1).toNat = d.toNat * v1.toNat := Int.toNat_mul h4 (by omega)
        have e4 := Int.mul_nonneg h4 (show 0 ≤ v1 by omega)
        omega
      have e5 : r.toNat * 4294967296 + u0.toNat < d.toNat * v0.toNat := by
        have e3 : (d * v0).toNat = d.toNat * v0.toNat := Int.toNat_mul h4 h2
        omega
      have := kn_test (B := 4294967296) rfl rfl hu hq e1 e5 (by omega)
      omega
theorem GuS.dle {h v1 v0 u0 d r : Int} (s : GuS h v1 v0 u0 d r) : d ≤ 4294967297 := by
  have h1 := s.eq
  have h2 := s.hhi
  have h3 := s.v1lo
  have h4 := s.rlo
  rcases Int.lt_or_le 4294967297 d with h5 | h5
  · exfalso
    have h6 : 4294967298 * v1 ≤ d * v1 := Int.mul_le_mul_of_nonneg_right (by omega) (by omega)
    omega
  · exact h5
/-- Behind the last step down: the rest is too great for a further test. -/
theorem GuS.brk {h v1 v0 u0 d r : Int} (s : GuS h v1 v0 u0 d r) (ht : 4294967295 < d ∨ r * 4294967296 + u0 < d * v0) (hr : 4294967295 < r + v1) : GuE h v1 v0 u0 (d - 1) := by
  have n := s.next ht
  have h1 := s.eq
  have h2 := s.hhi
  have h3 := s.v1lo
  have h4 := s.rlo
  have h5 := n.dlo
  have hd : d ≤ 4294967296 := by
    rcases Int.lt_or_le 4294967296 d with h6 | h6
    · exfalso
      have h7 : 4294967297 * v1 ≤ d * v1 := Int.mul_le_mul_of_nonneg_right (by omega) (by omega)
      omega
    · exact h6
  refine ⟨n.dlo, by omega, n.dom, r + v1, n.rlo, n.eq, ?_⟩
  have h8 : (d - 1) * v0 ≤ 4294967295 * v0 := Int.mul_le_mul_of_nonneg_right (by omega) n.v0lo
  have h9 := n.v0hi
  have h10 := n.u0lo
  omega
theorem GuS.fin {h v1 v0 u0 d r : Int} (s : GuS h v1 v0 u0 d r) (h1 : d ≤ 4294967295) (h2 : d * v0 ≤ r * 4294967296 + u0) : GuE h v1 v0 u0 d := ⟨s.dlo, h1, s.dom, r, s.rlo, s.eq, h2⟩
/-- The guess is the digit, or one above it. -/
theorem GuE.use {h v1 v0 u0 d : Int} (g : GuE h v1 v0 u0 d) (hv1 : 0 < v1) (hv0 : 0 ≤ v0) (hu0 : 0 ≤ u0) {W vr ur V U : Nat} (hV : V = (v1.toNat * 4294967296 + v0.toNat) * W + vr) (hU : U = (h.toNat * 4294967296 + u0.toNat) * W + ur) (hvr : vr < W) (hur : ur < W) (hUV : U < V * 4294967296) :
    U / V ≤ d.toNat ∧ d.toNat * V < U + V := by
  have hVpos : 0 < V := by
    rcases Nat.eq_zero_or_pos V with h0 | h0
    · rw [h0] at hUV; omega
    · exact h0
  have hq : U / V ≤ 4294967295 := by
    have : U / V < 4294967296 := by rw [Nat.div_lt_iff_lt_mul hVpos, Nat.mul_comm]; exact hUV
    omega
  have hlo := g.lo
  refine ⟨?_, ?_⟩
  · have := g.dom W vr ur (U / V) hvr hur hq (by rw [← hV, ← hU]; exact Nat.div_mul_le_self U V)
    omega
  · obtain ⟨r, hr0, hr1, hr2⟩ := g.up
    have e1 : d.toNat * v1.toNat + r.toNat = h.toNat := by
      have e3 : (d * v1).toNat = d.toNat * v1.toNat := Int.toNat_mul hlo (by omega)
      have e4 := Int.mul_nonneg hlo (show 0 ≤ v1 by omega)
      omega
    have e5 : d.toNat * v0.toNat ≤ r.toNat * 4294967296 + u0.toNat := by
      have e3 : (d * v0).toNat = d.toNat * v0.toNat := Int.toNat_mul hlo hv0
      omega
    have := g.hi
    exact kn_last (B := 4294967296) hV hvr hU e1 e5 (by omega) (by omega) (by omega)
end Go.Proofs.YtkbgdiejjabdmaaDoor
-- SbP
namespace Go.Proofs.YtkbgdiejjabdmaaDoor

theorem sb_step {P V V' E z b b' lo c c' m V0 S : Nat} (h1 : V' + P * E = V + P * z) (h2 : E + 4294967296 * b' = z + b + lo) (h3 : lo + 4294967296 * c' = c + m) (h4 : V + S = V0 + P * (b + c)) : V' + (S + P * m) = V0 + P * 4294967296 * (b' + c') := by
  have e1 : P * (E + 4294967296 * b') = P * (z + b + lo) := by rw [h2]
  have e2 : P * (lo + 4294967296 * c') = P * (c + m) := by rw [h3]
  have e3 : P * 4294967296 * (b' + c') = P * (4294967296 * b') + P * (4294967296 * c') := by grind
  simp only [Nat.mul_add] at e1 e2 h4
  omega
theorem drop_set_at (D : List Int) (j k : Nat) (z : Int) : (D.set (j + k) z).drop j = (D.drop j).set k z := by
  rw [List.drop_set, if_neg (by omega), Nat.add_sub_cancel_left]
theorem getD_drop (D : List Int) (j k : Nat) : (D.drop j).getD k 0 = D.getD (j + k) 0 := by
  rw [List.getD_eq_getElem?_getD, List.getD_eq_getElem?_getD, List.getElem?_drop]
structure SbS (D0 y : List Int) (j : Nat) (dg : Int) (k : Nat) (D : List Int) (b c : Int) : Prop where
  len : D.length = D0.length
  lim : Lim D
  take : D.take j = D0.take j
  far : ∀ i, j + y.length < i → D.getD i 0 = D0.getD i 0
  b0 : 0 ≤ b
  b1 : b ≤ 1
  c0 : 0 ≤ c
  c1 : c ≤ 4294967295
  eq : val (D.drop j) + dg.toNat * val (y.take k) = val (D0.drop j) + 4294967296 ^ k * (b.toNat + c.toNat)
theorem SbS.start {D0 : List Int} (y : List Int) (j : Nat) (dg : Int) (h : Lim D0) : SbS D0 y j dg 0 D0 0 0 := ⟨rfl, h, rfl, fun _ _ => rfl, by omega, by omega, by omega, by omega, by simp [val]⟩
theorem SbS.next {D0 y D : List Int} {j k : Nat} {dg b c t z b' : Int} (h : SbS D0 y j dg k D b c) (hy : Lim y) (hk : k < y.length) (hj : j + y.length < D0.length) (g0 : 0 ≤ dg) (g1 : dg ≤ 4294967295) (ht : t = c + dg * y.getD k 0)
    (hz : D.getD (j + k) 0 + 4294967296 * b' = z + b + t % 4294967296) (z0 : 0 ≤ z) (z1 : z ≤ 4294967295) (l0 : 0 ≤ b') (l1 : b' ≤ 1) : SbS D0 y j dg (k + 1) (D.set (j + k) z) b' (t / 4294967296) := by
  have q := hy.get k
  have D1 := h.lim.get (j + k)
  obtain ⟨m0, m1⟩ := mul_bound g0 g1 q.1 q.2
  have c0 := h.c0
  have c1 := h.c1
  have b0 := h.b0
  have b1 := h.b1
  refine ⟨by simp [h.len], h.lim.set _ z0 z1, ?_, fun i hi => by rw [getD_set_ne' (by omega)]; exact h.far i hi, l0, l1, by omega, by omega, ?_⟩
  · rw [List.take_set_of_le (by omega)]; exact h.take
  · rw [drop_set_at, val_take_succ' y, Nat.pow_succ]
    have h1 := val_set (D.drop j) k z (by rw [List.length_drop, h.len]; omega)
    rw [getD_drop] at h1
    have e : (dg * y.getD k 0).toNat = dg.toNat * (y.getD k 0).toNat := Int.toNat_mul g0 q.1
    have := sb_step (b' := b'.toNat) (lo := (t % 4294967296).toNat) (c' := (t / 4294967296).toNat) (m := (dg * y.getD k 0).toNat) h1 (b := b.toNat) (by omega) (c := c.toNat) (by omega) h.eq
    rw [e] at this
    rw [Nat.mul_add, ← Nat.mul_assoc dg.toNat, Nat.mul_comm dg.toNat (4294967296 ^ k), Nat.mul_assoc]
    exact this
/-- Behind the loop: the highest limb. -/
structure SbE (D0 y : List Int) (j : Nat) (dg : Int) (D : List Int) (neg : Bool) : Prop where
  len : D.length = D0.length
  lim : Lim D
  take : D.take j = D0.take j
  far : ∀ i, j + y.length < i → D.getD i 0 = D0.getD i 0
  eq : val (D.drop j) + dg.toNat * val y = val (D0.drop j) + if neg then 4294967296 ^ (y.length + 1) else 0
theorem SbS.done {D0 y D : List Int} {j : Nat} {dg b c z b' : Int} {neg : Bool} (h : SbS D0 y j dg y.length D b c) (hj : j + y.length < D0.length)
    (hz : D.getD (j + y.length) 0 + 4294967296 * b' = z + b + c) (z0 : 0 ≤ z) (z1 : z ≤ 4294967295) (hb : b' = if neg then 1 else 0) : SbE D0 y j dg (D.set (j + y.length) z) neg := by
  have c0 := h.c0
  have b0 := h.b0
  have D1 := h.lim.get (j + y.length)
  refine ⟨by simp [h.len], h.lim.set _ z0 z1, ?_, fun i hi => by rw [getD_set_ne' (by omega)]; exact h.far i hi, ?_⟩
  · rw [List.take_set_of_le (by omega)]; exact h.take
  · rw [drop_set_at]
    have h1 := val_set (D.drop j) y.length z (by rw [List.length_drop, h.len]; omega)
    rw [getD_drop] at h1
    have h2 := h.eq
    rw [List.take_length] at h2
    have e : (D.getD (j + y.length) 0).toNat + 4294967296 * b'.toNat = z.toNat + b.toNat + c.toNat := by
      have : 0 ≤ b' := by rw [hb]; split <;> omega
      omega
    have e2 : 4294967296 ^ y.length * ((D.getD (j + y.length) 0).toNat + 4294967296 * b'.toNat) = 4294967296 ^ y.length * (z.toNat + b.toNat + c.toNat) := by rw [e]
    have e3 : (if neg = true then 4294967296 ^ (y.length + 1) else 0) = 4294967296 ^ y.length * (4294967296 * b'.toNat) := by
      rw [hb]
      cases neg <;> simp [Nat.pow_succ]
    rw [e3]
    simp only [Nat.mul_add] at e2 h2
    omega

/-- Putting back, k limbs done. -/
structure AbS (D0 y : List Int) (j k : Nat) (D : List Int) (c : Int) : Prop where
  len : D.length = D0.length
  lim : Lim D
  take : D.take j = D0.take j
  far : ∀ i, j + y.length < i → D.getD i 0 = D0.getD i 0
  c0 : 0 ≤ c
  c1 : c ≤ 1
  eq : val (D.drop j) + 4294967296 ^ k * c.toNat = val (D0.drop j) + val (y.take k)
theorem AbS.start {D0 : List Int} (y : List Int) (j : Nat) (h : Lim D0) : AbS D0 y j 0 D0 0 := ⟨rfl, h, rfl, fun _ _ => rfl, by omega, by omega, by simp [val]⟩
theorem AbS.next {D0 y D : List Int} {j k : Nat} {c t : Int} (h : AbS D0 y j k D c) (hy : Lim y) (hk : k < y.length) (hj : j + y.length < D0.length) (ht : t = c + (D.getD (j + k) 0 + y.getD k 0)) : AbS D0 y j (k + 1) (D.set (j + k) (t % 4294967296)) (t / 4294967296) := by
  have q := hy.get k
  have D1 := h.lim.get (j + k)
  have c0 := h.c0
  have c1 := h.c1
  refine ⟨by simp [h.len], h.lim.set _ (by omega) (by omega), ?_, fun i hi => by rw [getD_set_ne' (by omega)]; exact h.far i hi, by omega, by omega, ?_⟩
  · rw [List.take_set_of_le (by omega)]; exact h.take
  · rw [drop_set_at, val_take_succ' y, Nat.pow_succ]
    have h1 := val_set (D.drop j) k (t % 4294967296) (by rw [List.length_drop, h.len]; omega)
    rw [getD_drop] at h1
    have h2 := h.eq
    have e : (t % 4294967296).toNat + 4294967296 * (t / 4294967296).toNat = c.toNat + ((D.getD (j + k) 0).toNat + (y.getD k 0).toNat) := by omega
    have e2 : 4294967296 ^ k * ((t % 4294967296).toNat + 4294967296 * (t / 4294967296).toNat) = 4294967296 ^ k * (c.toNat + ((D.getD (j + k) 0).toNat + (y.getD k 0).toNat)) := by rw [e]
    simp only [Nat.mul_add] at e2
    rw [Nat.mul_assoc]
    omega
structure AbE (D0 y : List Int) (j : Nat) (D : List Int) : Prop where
  len : D.length = D0.length
  lim : Lim D
  take : D.take j = D0.take j
  far : ∀ i, j + y.length < i → D.getD i 0 = D0.getD i 0
  eq : ∃ o : Nat, val (D.drop j) + 4294967296 ^ (y.length + 1) * o = val (D0.drop j) + val y
theorem AbS.done {D0 y D : List Int} {j : Nat} {c t : Int} (h : AbS D0 y j y.length D c) (hj : j + y.length < D0.length) (ht : t = D.getD (j + y.length) 0 + c) : AbE D0 y j (D.set (j + y.length) (t % 4294967296)) := by
  have c0 := h.c0
  have D1 := h.lim.get (j + y.length)
  refine ⟨by simp [h.len], h.lim.set _ (by omega) (by omega), ?_, fun i hi => by rw [getD_set_ne' (by omega)]; exact h.far i hi, (t / 4294967296).toNat, ?_⟩
  · rw [List.take_set_of_le (by omega)]; exact h.take
  · rw [drop_set_at, Nat.pow_succ]
    have h1 := val_set (D.drop j) y.length (t % 4294967296) (by rw [List.length_drop, h.len]; omega)
    rw [getD_drop] at h1
    have h2 := h.eq
    rw [List.take_length] at h2
    have e : (t % 4294967296).toNat + 4294967296 * (t / 4294967296).toNat = (D.getD (j + y.length) 0).toNat + c.toNat := by omega
    have e2 : 4294967296 ^ y.length * ((t % 4294967296).toNat + 4294967296 * (t / 4294967296).toNat) = 4294967296 ^ y.length * ((D.getD (j + y.length) 0).toNat + c.toNat) := by rw [e]
    simp only [Nat.mul_add] at e2
    rw [Nat.mul_assoc]
    omega
end Go.Proofs.YtkbgdiejjabdmaaDoor
-- DmP
namespace Go.Proofs.YtkbgdiejjabdmaaDoor

theorem far_zero {l : List Int} (hl : Lim l) {m : Nat} (h : val l < 4294967296 ^ m) : ∀ i, m ≤ i → l.getD i 0 = 0 := by
  intro i hi
  have h1 := hl.get i
  rcases Int.lt_or_le 0 (l.getD i 0) with h2 | h2
  · exfalso
    have hlen : i < l.length := by
      rcases Nat.lt_or_ge i l.length with h3 | h3
      · exact h3
      · rw [List.getD_eq_getElem?_getD, List.getElem?_eq_none h3] at h2
        exact absurd h2 (by decide)
    have h3 := val_take_drop l (i + 1) (by omega)
    have h4 := val_take_succ l i hlen
    have h5 : 4294967296 ^ m ≤ 4294967296 ^ i := Nat.pow_le_pow_right (by decide) hi
    have h6 : 4294967296 ^ i * 1 ≤ 4294967296 ^ i * (l.getD i 0).toNat := Nat.mul_le_mul_left _ (by omega)
    omega
  · omega
theorem val_of_far {l : List Int} {m : Nat} (hm : m ≤ l.length) (h : ∀ i, m ≤ i → l.getD i 0 = 0) : val l = val (l.take m) := by
  rw [val_take_drop l m hm]
  have : l.drop m = List.replicate (l.length - m) 0 := by
    apply List.ext_getElem
    · simp
    · intro i h1 h2
      have h3 := h (m + i) (by omega)
      rw [List.getD_eq_getElem?_getD, List.getElem?_eq_getElem (by simp at h1; omega)] at h3
      simpa using h3
  rw [this, val_replicate]
  rfl
theorem lt_of_far {l : List Int} (hl : Lim l) {m : Nat} (h : ∀ i, m ≤ i → l.getD i 0 = 0) : val l < 4294967296 ^ m := by
  by_cases hm : m ≤ l.length
  · rw [val_of_far hm h]
    have := val_lt (hl.take m)
    rwa [List.length_take, Nat.min_eq_left hm] at this
  · exact Nat.lt_of_lt_of_le (val_lt hl) (Nat.pow_le_pow_right (by decide) (by omega))
/-- The three highest limbs of a list, and what lies below them. -/
theorem val_three {l : List Int} (hl : Lim l) {n : Nat} (h : ∀ i, n + 3 ≤ i → l.getD i 0 = 0) : ∃ ur, ur < 4294967296 ^ n ∧ val l = (((l.getD (n + 2) 0).toNat * 4294967296 + (l.getD (n + 1) 0).toNat) * 4294967296 + (l.getD n 0).toNat) * 4294967296 ^ n + ur := by
  have e : val l = val (l.take (n + 3)) := by
    by_cases hm : n + 3 ≤ l.length
    · exact val_of_far hm h
    · rw [List.take_of_length_le (by omega)]
  have h1 := val_take_succ' l (n + 2)
  have h2 := val_take_succ' l (n + 1)
  have h3 := val_take_succ' l n
  refine ⟨val (l.take n), ?_, ?_⟩
  · exact Nat.lt_of_lt_of_le (val_lt (hl.take n)) (Nat.pow_le_pow_right (by decide) (by rw [List.length_take]; omega))
  · rw [e, h1, h2, h3, Nat.pow_succ, Nat.pow_succ]
    grind
theorem val_two' {l : List Int} (hl : Lim l) {n : Nat} (hn : l.length = n + 2) : ∃ vr, vr < 4294967296 ^ n ∧ val l = ((l.getD (n + 1) 0).toNat * 4294967296 + (l.getD n 0).toNat) * 4294967296 ^ n + vr := by
  have h2 := val_take_succ' l (n + 1)
  have h3 := val_take_succ' l n
  rw [← hn, List.take_length] at h2
  refine ⟨val (l.take n), ?_, ?_⟩
  · exact Nat.lt_of_lt_of_le (val_lt (hl.take n)) (Nat.pow_le_pow_right (by decide) (by rw [List.length_take]; omega))
  · rw [h2, h3, Nat.pow_succ]
    grind

structure DmS (T VV k N M : Nat) (D Q : List Int) : Prop where
  dl : D.length = N
  dlim : Lim D
  ql : Q.length = M
  qlim : Lim Q
  q0 : ∀ i, i < k → Q.getD i 0 = 0
  eq : T = val Q * VV + val D
  lt : val D < VV * 4294967296 ^ k
theorem DmS.start {T VV k N M : Nat} {D : List Int} (h1 : D.length = N) (h2 : Lim D) (h3 : val D = T) (h4 : T < VV * 4294967296 ^ k) : DmS T VV k N M D (List.replicate M 0) :=
  ⟨h1, h2, by simp, Lim.replicate _, fun i _ => by rw [List.getD_eq_getElem?_getD, List.getElem?_replicate]; split <;> rfl, by rw [val_replicate, h3]; omega, by rw [h3]; exact h4⟩
theorem DmS.next {T VV k N M : Nat} {D D' Q : List Int} {q : Int} (h : DmS T VV (k + 1) N M D Q) (hk : k < M) (hkN : k ≤ N) (hl : D'.length = N) (hlim : Lim D') (ht : D'.take k = D.take k) (q0 : 0 ≤ q) (q1 : q ≤ 4294967295)
    (he : val (D'.drop k) + q.toNat * VV = val (D.drop k)) (hr : val (D'.drop k) < VV) : DmS T VV k N M D' (Q.set k q) := by
  have e1 := val_take_drop D k (by rw [h.dl]; exact hkN)
  have e2 := val_take_drop D' k (by rw [hl]; exact hkN)
  rw [ht] at e2
  have e3 := val_set Q k q (by rw [h.ql]; exact hk)
  rw [h.q0 k (by omega)] at e3
  have e4 := h.eq
  refine ⟨hl, hlim, by simp [h.ql], h.qlim.set k q0 q1, fun i hi => by rw [getD_set_ne' (by omega)]; exact h.q0 i (by omega), ?_, ?_⟩
  · have e5 : val (Q.set k q) = val Q + 4294967296 ^ k * q.toNat := by simpa using e3
    rw [e5, Nat.add_mul, e2, e4, e1, ← he]
    grind
  · have e6 : val (D.take k) < 4294967296 ^ k := Nat.lt_of_lt_of_le (val_lt (h.dlim.take k)) (Nat.pow_le_pow_right (by decide) (by rw [List.length_take]; omega))
    have e7 : 4294967296 ^ k * (val (D'.drop k) + 1) ≤ 4294967296 ^ k * VV := Nat.mul_le_mul_left _ hr
    rw [e2, Nat.mul_comm VV]
    rw [Nat.mul_add] at e7
    omega
/-- The part of the dividend that a round divides. -/
theorem DmS.part {T VV k N M : Nat} {D Q : List Int} (h : DmS T VV (k + 1) N M D Q) (hkN : k ≤ N) : val (D.drop k) < VV * 4294967296 := by
  have e1 := val_take_drop D k (by rw [h.dl]; exact hkN)
  have e2 := h.lt
  rcases Nat.lt_or_ge (val (D.drop k)) (VV * 4294967296) with h3 | h3
  · exact h3
  · exfalso
    have e3 : 4294967296 ^ k * (VV * 4294967296) ≤ 4294967296 ^ k * val (D.drop k) := Nat.mul_le_mul_left _ h3
    have e4 : VV * 4294967296 ^ (k + 1) = 4294967296 ^ k * (VV * 4294967296) := by rw [Nat.pow_succ]; grind
    omega
/-- The digit was right. -/
theorem sb_right {D0 y D1 : List Int} {j : Nat} {dg : Int} (h : SbE D0 y j dg D1 false) (hq : val (D0.drop j) / val y ≤ dg.toNat) (hV : 0 < val y) :
    val (D1.drop j) + dg.toNat * val y = val (D0.drop j) ∧ val (D1.drop j) < val y := by
  have h1 := h.eq
  simp only [Bool.false_eq_true, if_false, Nat.add_zero] at h1
  refine ⟨h1, ?_⟩
  have h2 : val (D0.drop j) < val y * (val (D0.drop j) / val y + 1) := Nat.lt_mul_div_succ _ hV
  have h3 : val y * (val (D0.drop j) / val y + 1) ≤ val y * (dg.toNat + 1) := Nat.mul_le_mul_left _ (by omega)
  have h4 : val y * (dg.toNat + 1) = dg.toNat * val y + val y := by grind
  omega
theorem back_core {P E1 E2 E0 V dg o : Nat} (e1 : E1 + dg * V = E0 + P) (e2 : E2 + P * o = E1 + V) (f1 : E1 < P) (f2 : E2 < P) (f3 : V < P) (hup : dg * V < E0 + V) : 1 ≤ dg ∧ E2 + (dg - 1) * V = E0 ∧ E2 < V := by
  have d1 : 1 ≤ dg := by
    rcases Nat.eq_zero_or_pos dg with h0 | h0
    · rw [h0] at e1; omega
    · exact h0
  obtain ⟨m, hm⟩ : ∃ m, dg = m + 1 := ⟨dg - 1, by omega⟩
  subst hm
  rw [Nat.add_mul, Nat.one_mul] at e1 hup
  rw [Nat.add_sub_cancel]
  have ho : o = 1 := by
    rcases Nat.lt_or_ge o 1 with h0 | h0
    · obtain rfl : o = 0 := by omega
      rw [Nat.mul_zero] at e2
      omega
    · rcases Nat.lt_or_ge o 2 with h2 | h2
      · omega
      · have : P * 2 ≤ P * o := Nat.mul_le_mul_left _ h2
        omega
  subst ho
  rw [Nat.mul_one] at e2
  refine ⟨d1, ?_, ?_⟩ <;> omega
/-- The digit was one too great: the divisor is put back. -/
theorem sb_back {D0 y D1 D2 : List Int} {j n : Nat} {dg : Int} (hn : y.length = n) (h : SbE D0 y j dg D1 true) (hb : AbE D1 y j D2) (hy : Lim y) (h1 : ∀ i, j + n < i → D0.getD i 0 = 0) (hup : dg.toNat * val y < val (D0.drop j) + val y) :
    1 ≤ dg.toNat ∧ val (D2.drop j) + (dg.toNat - 1) * val y = val (D0.drop j) ∧ val (D2.drop j) < val y := by
  subst hn
  have e1 := h.eq
  simp only [if_true] at e1
  obtain ⟨o, e2⟩ := hb.eq
  have f1 : val (D1.drop j) < 4294967296 ^ (y.length + 1) := lt_of_far (h.lim.drop j) (fun i hi => by rw [getD_drop, h.far _ (by omega)]; exact h1 _ (by omega))
  have f2 : val (D2.drop j) < 4294967296 ^ (y.length + 1) := lt_of_far (hb.lim.drop j) (fun i hi => by rw [getD_drop, hb.far _ (by omega), h.far _ (by omega)]; exact h1 _ (by omega))
  have f3 : val y < 4294967296 ^ (y.length + 1) := Nat.lt_of_lt_of_le (val_lt hy) (Nat.pow_le_pow_right (by decide) (by omega))
  exact back_core e1 e2 f1 f2 f3 hup
theorem DmS.done {X Y s N M : Nat} {D Q : List Int} (h : DmS (X * 2 ^ s) (Y * 2 ^ s) 0 N M D Q) : val Q = X / Y ∧ val D / 2 ^ s = X % Y := by
  have h1 := h.eq
  have h2 := h.lt
  simp only [Nat.pow_zero, Nat.mul_one] at h2
  have hp : 0 < 2 ^ s := Nat.two_pow_pos s
  have e1 : X * 2 ^ s = (val Q * Y) * 2 ^ s + val D := by rw [h1]; grind
  have hle : val Q * Y ≤ X := by
    rcases Nat.lt_or_ge X (val Q * Y) with h3 | h3
    · have := Nat.mul_lt_mul_of_pos_right h3 hp; omega
    · exact h3
  have e2 : val D = (X - val Q * Y) * 2 ^ s := by rw [Nat.sub_mul]; omega
  have e3 : X - val Q * Y < Y := by
    rw [e2] at h2
    exact Nat.lt_of_mul_lt_mul_right h2
  have e4 : X = Y * val Q + (X - val Q * Y) := by rw [Nat.mul_comm]; omega
  constructor
  · conv => rhs; rw [e4]
    rw [Nat.mul_add_div (by omega), Nat.div_eq_of_lt e3, Nat.add_zero]
  · rw [e2, Nat.mul_div_cancel _ hp]
    conv => rhs; rw [e4]
    rw [Nat.mul_add_mod, Nat.mod_eq_of_lt e3]
theorem top_core {B p2 p1 p0 q1 q0 W ur vr : Nat} (hvr : vr < W) (hp : ((p2 * B + p1) * B + p0) * W + ur < ((q1 * B + q0) * W + vr) * B) (hq : q0 < B) : p2 ≤ q1 := by
  rcases Nat.lt_or_ge q1 p2 with h | h
  · exfalso
    have x1 : (q1 * B + q0) * W + vr ≤ (q1 * B + q0 + 1) * W := by rw [Nat.add_mul _ 1, Nat.one_mul]; omega
    have x2 : q1 * B + q0 + 1 ≤ (q1 + 1) * B := by rw [Nat.add_mul, Nat.one_mul]; omega
    have x3 : (q1 + 1) * B ≤ p2 * B := Nat.mul_le_mul_right B h
    have x4 : (q1 * B + q0 + 1) * W ≤ p2 * B * W := Nat.mul_le_mul_right W (Nat.le_trans x2 x3)
    have x5 : ((q1 * B + q0) * W + vr) * B ≤ p2 * B * W * B := Nat.mul_le_mul_right B (Nat.le_trans x1 x4)
    have x6 : p2 * B * W * B = p2 * B * B * W := by grind
    have x7 : p2 * B * B ≤ (p2 * B + p1) * B + p0 := by rw [Nat.add_mul]; omega
    have x8 : p2 * B * B * W ≤ ((p2 * B + p1) * B + p0) * W := Nat.mul_le_mul_right W x7
    omega
  · exact h
/-- The part of the dividend of a round, by its highest limbs. -/
theorem part_top {D yv : List Int} {j c lx T : Nat} (hD : Lim D) (hy : Lim yv) (hyl : yv.length = c + 2) (hp : val (D.drop j) < T * 4294967296) (hT : val yv = T) (_hj : j + (c + 2) < lx + 1) :
    D.getD (j + (c + 2)) 0 ≤ yv.getD (c + 1) 0 ∧ (∀ i, j + (c + 2) < i → D.getD i 0 = 0) ∧
    (∃ ur, ur < 4294967296 ^ c ∧ val (D.drop j) = (((D.getD (j + (c + 2)) 0).toNat * 4294967296 + (D.getD (j + (c + 1)) 0).toNat) * 4294967296 + (D.getD (j + c) 0).toNat) * 4294967296 ^ c + ur) ∧
    (∃ vr, vr < 4294967296 ^ c ∧ val yv = ((yv.getD (c + 1) 0).toNat * 4294967296 + (yv.getD c 0).toNat) * 4294967296 ^ c + vr) := by
  subst hT
  have hV := val_lt hy
  rw [hyl] at hV
  have hb : val (D.drop j) < 4294967296 ^ (c + 2 + 1) := by
    rw [Nat.pow_succ]
    have h9 : val yv * 4294967296 < 4294967296 ^ (c + 2) * 4294967296 := Nat.mul_lt_mul_of_pos_right hV (by decide)
    exact Nat.lt_trans hp h9
  have hfarE : ∀ i, c + 2 + 1 ≤ i → (D.drop j).getD i 0 = 0 := far_zero (hD.drop j) hb
  obtain ⟨ur, hur, hu⟩ := val_three (hD.drop j) (n := c) (fun i hi => hfarE i (by omega))
  obtain ⟨vr, hvr, hv⟩ := val_two' hy hyl
  rw [getD_drop, getD_drop, getD_drop] at hu
  refine ⟨?_, fun i hi => ?_, ⟨ur, hur, hu⟩, ⟨vr, hvr, hv⟩⟩
  · have a2 := hD.get (j + (c + 2))
    have b1 := hy.get (c + 1)
    have b0 := hy.get c
    obtain ⟨W, hW⟩ : ∃ W, W = 4294967296 ^ c := ⟨_, rfl⟩
    rw [← hW] at hu hv hvr
    obtain ⟨p2, hp2⟩ : ∃ p2, p2 = (D.getD (j + (c + 2)) 0).toNat := ⟨_, rfl⟩
    obtain ⟨p1, hp1⟩ : ∃ p1, p1 = (D.getD (j + (c + 1)) 0).toNat := ⟨_, rfl⟩
    obtain ⟨p0, hp0⟩ : ∃ p0, p0 = (D.getD (j + c) 0).toNat := ⟨_, rfl⟩
    obtain ⟨q1, hq1⟩ : ∃ q1, q1 = (yv.getD (c + 1) 0).toNat := ⟨_, rfl⟩
    obtain ⟨q0, hq0⟩ : ∃ q0, q0 = (yv.getD c 0).toNat := ⟨_, rfl⟩
    rw [← hp2, ← hp1, ← hp0] at hu
    rw [← hq1, ← hq0] at hv
    rw [hu, hv] at hp
    have core := top_core hvr hp (by omega)
    omega
  · have := hfarE (i - j) (by omega)
    rw [getD_drop, show j + (i - j) = i by omega] at this
    exact this

end Go.Proofs.YtkbgdiejjabdmaaDoor
-- RefP
namespace Go.Proofs.YtkbgdiejjabdmaaDoor

/-- The sum so far: n limbs, k of them done, and a carry. -/
structure RAdd (x y : List Int) (n k : Nat) (d : List Int) (c : Int) : Prop where
  len : d.length = n
  lim : Lim d
  lo : 0 ≤ c
  hi : c ≤ 1
  eq : val (d.take k) + 4294967296 ^ k * c.toNat = val (x.take k) + val (y.take k)
theorem RAdd.start (x y : List Int) (n : Nat) : RAdd x y n 0 (List.replicate n 0) 0 := ⟨by simp, Lim.replicate _, by omega, by omega, by simp [val]⟩
theorem RAdd.next {x y d : List Int} {n k : Nat} {c t : Int} (h : RAdd x y n k d c) (hx : Lim x) (hy : Lim y) (hk : k < n) (ht : t = x.getD k 0 + y.getD k 0 + c) : RAdd x y n (k + 1) (d.set k (t % 4294967296)) (t / 4294967296) := by
  have h1 := hx.get k
  have h2 := hy.get k
  have h3 := h.lo
  have h4 := h.hi
  refine ⟨by simp [h.len], h.lim.set k (by omega) (by omega), by omega, by omega, ?_⟩
  rw [val_take_set (by rw [h.len]; exact hk), val_take_succ', val_take_succ', Nat.pow_succ]
  have h5 := h.eq
  have h7 : (t % 4294967296).toNat + 4294967296 * (t / 4294967296).toNat = c.toNat + (x.getD k 0).toNat + (y.getD k 0).toNat := by omega
  have h8 : 4294967296 ^ k * ((t % 4294967296).toNat + 4294967296 * (t / 4294967296).toNat) = 4294967296 ^ k * (c.toNat + (x.getD k 0).toNat + (y.getD k 0).toNat) := by rw [h7]
  rw [Nat.mul_add, Nat.mul_add, Nat.mul_add] at h8
  rw [Nat.mul_assoc]
  omega
theorem val_lt_pow {x : List Int} (hx : Lim x) {n : Nat} (h : x.length ≤ n) : val x < 4294967296 ^ n :=
  Nat.lt_of_lt_of_le (val_lt hx) (Nat.pow_le_pow_right (by decide) h)
theorem radd_arith {d B E c x y : Nat} (h3 : d + B * E * c = x + y) (h4 : x < B) (h5 : y < B) (hE : 2 ≤ E) (hc : c ≤ 1) : d = x + y := by
  rcases (show c = 0 ∨ c = 1 by omega) with rfl | rfl
  · rw [Nat.mul_zero, Nat.add_zero] at h3
    exact h3
  · have h6 : B * 2 ≤ B * E := Nat.mul_le_mul_left _ hE
    rw [Nat.mul_one] at h3
    omega
theorem pow_pred (E : Nat) {n : Nat} (h : 0 < n) : E ^ n = E ^ (n - 1) * E := by rw [← Nat.pow_succ, Nat.succ_eq_add_one, Nat.sub_add_cancel (by omega)]
theorem RAdd.done {x y d : List Int} {n : Nat} {c : Int} (h : RAdd x y n n d c) (hx : Lim x) (hy : Lim y) (h1 : x.length < n) (h2 : y.length < n) : val d = val x + val y := by
  have h3 := h.eq
  have e1 : d.take n = d := List.take_of_length_le (by rw [h.len]; exact Nat.le_refl _)
  have e2 : x.take n = x := List.take_of_length_le (by omega)
  have e3 : y.take n = y := List.take_of_length_le (by omega)
  rw [e1, e2, e3, pow_pred _ (by omega)] at h3
  exact radd_arith h3 (val_lt_pow hx (by omega)) (val_lt_pow hy (by omega)) (by decide) (by have := h.hi; omega)

/-- Padding with zeros. -/
def pad (x : List Int) (n : Nat) : List Int := x ++ List.replicate (n - x.length) 0
theorem pad_len {x : List Int} {n : Nat} (h : x.length ≤ n) : (pad x n).length = n := by simp [pad]; omega
theorem pad_val (x : List Int) (n : Nat) : val (pad x n) = val x := by rw [pad, val_append, val_replicate]; simp
theorem pad_lim {x : List Int} (h : Lim x) (n : Nat) : Lim (pad x n) := h.append (Lim.replicate _)
theorem pad_get (x : List Int) (n j : Nat) : (pad x n).getD j 0 = x.getD j 0 := by
  rw [List.getD_eq_getElem?_getD, List.getD_eq_getElem?_getD, pad, List.getElem?_append]
  split
  · rfl
  · rename_i h
    rw [List.getElem?_eq_none (l := x) (by omega), List.getElem?_replicate]
    split <;> rfl
theorem val_lt_getD {x y : List Int} (hx : Lim x) (hy : Lim y) {i n : Nat} (h1 : x.length ≤ n) (h2 : y.length ≤ n) (hi : i < n) (he : ∀ j, i < j → x.getD j 0 = y.getD j 0) (h : x.getD i 0 < y.getD i 0) : val x < val y := by
  rw [← pad_val x n, ← pad_val y n]
  exact val_lt_of_limb (pad_lim hx n) (pad_lim hy n) (by rw [pad_len h1, pad_len h2]) (i := i) (by rw [pad_len h1]; exact hi) (fun j a _ => by rw [pad_get, pad_get]; exact he j a) (by rw [pad_get, pad_get]; exact h)
theorem val_eq_getD {x y : List Int} (he : ∀ j, x.getD j 0 = y.getD j 0) : val x = val y := by
  rw [← pad_val x (max x.length y.length), ← pad_val y (max x.length y.length)]
  congr 1
  exact eq_of_getD (by rw [pad_len (by omega), pad_len (by omega)]) (fun j _ => by rw [pad_get, pad_get]; exact he j)
theorem getD_high {x : List Int} {j : Nat} (h : x.length ≤ j) : x.getD j 0 = 0 := by rw [List.getD_eq_getElem?_getD, List.getElem?_eq_none (by omega)]; rfl

theorem SubSt.done' {x y d : List Int} {b : Int} (h : SubSt x y x.length d b) (hx : Lim x) (hv : val y ≤ val x) : val d = val x - val y := by
  have h1 := h.eq
  rw [List.take_length, ← h.len, List.take_length, h.len] at h1
  have h2 := val_lt h.lim
  rw [h.len] at h2
  have h0 := val_lt hx
  have h3 := h.lo
  have h4 : val (y.take x.length) = val y := by
    by_cases hl : y.length ≤ x.length
    · rw [List.take_of_length_le hl]
    · have h5 := val_take_drop y x.length (by omega)
      rcases Nat.eq_zero_or_pos (val (y.drop x.length)) with h6 | h6
      · rw [h6] at h5; omega
      · have h7 : 4294967296 ^ x.length * 1 ≤ 4294967296 ^ x.length * val (y.drop x.length) := Nat.mul_le_mul_left _ h6
        omega
  rw [h4] at h1
  by_cases hb : b = 0
  · subst hb; simp at h1; omega
  · have hb1 : b = 1 := by have := h.hi; omega
    subst hb1
    simp at h1
    omega

theorem bitsN_half {n : Nat} (h : n ≠ 0) : bitsN n = bitsN (n / 2) + 1 := by
  by_cases h1 : n / 2 = 0
  · have : n = 1 := by omega
    subst this
    rfl
  · have h2 := bitsN_lo h1
    have h3 := bitsN_hi (n / 2)
    have h4 := bitsN_pos h1
    refine bitsN_eq (k := bitsN (n / 2)) ?_ ?_
    · have : 2 ^ bitsN (n / 2) = 2 * 2 ^ (bitsN (n / 2) - 1) := by
        rw [← Nat.pow_succ']; congr 1; omega
      omega
    · rw [Nat.pow_succ]; omega
theorem bitsN_limbs {xs : List Int} (hl : Lim xs) {k : Nat} (hk : xs.length = k + 1) (ht : xs.getD k 0 ≠ 0) : bitsN (val xs) = 32 * k + bitsN (xs.getD k 0).toNat := by
  have h := hl.get k
  have h0 : (xs.getD k 0).toNat ≠ 0 := by omega
  have h1 := bitsN_lo h0
  have h2 := bitsN_hi (xs.getD k 0).toNat
  have h3 := bitsN_pos h0
  have h4 := bitsN_top hl hk h1 (by rw [show bitsN (xs.getD k 0).toNat - 1 + 1 = bitsN (xs.getD k 0).toNat by omega]; exact h2)
  omega

/-- A shift by o limbs and s bits, k limbs done. -/
structure ShR (a : List Int) (o s k : Nat) (d : List Int) : Prop where
  len : d.length = a.length + o + 1
  lim : Lim d
  eq : val d = val (a.take k) * 2 ^ (32 * o + s)
  top : d.getD (k + o) 0 < 2 ^ s
  zero : ∀ j, k + o < j → d.getD j 0 = 0
theorem ShR.start (a : List Int) (o s : Nat) : ShR a o s 0 (List.replicate (a.length + o + 1) 0) := by
  have hz : ∀ j, (List.replicate (a.length + o + 1) (0 : Int)).getD j 0 = 0 := fun j => by
    rw [List.getD_eq_getElem?_getD, List.getElem?_replicate]; split <;> rfl
  refine ⟨by simp, Lim.replicate _, by simp [val, val_replicate], ?_, fun j _ => hz j⟩
  rw [hz]
  exact Int.pow_pos (by decide)
theorem shr_low {y p q : Nat} (hpq : p * q = 4294967296) (q2 : 2 ≤ q) : y * p % 4294967296 + p ≤ 4294967296 := by
  have e1 : y * p % 4294967296 = (y % q) * p := by rw [← hpq, Nat.mul_comm p q, Nat.mul_mod_mul_right]
  have e2 : y % q + 1 ≤ q := Nat.mod_lt _ (by omega)
  have e3 : (y % q + 1) * p ≤ q * p := Nat.mul_le_mul_right _ e2
  rw [e1]
  rw [Nat.add_mul] at e3
  rw [Nat.mul_comm] at hpq
  omega
theorem shr_hi {y p : Nat} (p1 : 1 ≤ p) (hy1 : y ≤ 4294967295) : y * p / 4294967296 < p := by
  have hyp : y * p ≤ 4294967295 * p := Nat.mul_le_mul_right _ hy1
  rw [Nat.div_lt_iff_lt_mul (by decide)]
  have : 4294967295 * p < p * 4294967296 := by omega
  omega
theorem shr_lm {y p c : Nat} {l m x : Int} (hlow : y * p % 4294967296 + p ≤ 4294967296) (hhi : y * p / 4294967296 < p) (p2 : p ≤ 2147483648) (hx : x = (y : Int) * p) (hl : l = c + x % 4294967296) (hm : m = x / 4294967296) (hc : (c : Int) < p) :
    0 ≤ l ∧ l ≤ 4294967295 ∧ 0 ≤ m ∧ m < p ∧ l.toNat + 4294967296 * m.toNat = c + y * p := by
  have hxn : x = ((y * p : Nat) : Int) := by rw [hx, Int.natCast_mul]
  generalize y * p = t at *
  omega
theorem shr_val {d0 d1 d2 K c l m t : Nat} (v1 : d1 + K * c = d0 + K * l) (v2 : d2 = d1 + K * 4294967296 * m) (e : l + 4294967296 * m = c + t) : d2 = d0 + K * t := by
  have e3 : K * (l + 4294967296 * m) = K * (c + t) := by rw [e]
  rw [Nat.mul_add, Nat.mul_add, ← Nat.mul_assoc] at e3
  omega
theorem shr_pow (y p k o s : Nat) (hp : 2 ^ s = p) : 4294967296 ^ k * y * 2 ^ (32 * o + s) = 4294967296 ^ (k + o) * (y * p) := by
  rw [Nat.pow_add 2, ← pow32, hp, Nat.pow_add]
  generalize 4294967296 ^ k = K
  generalize 4294967296 ^ o = O
  simp only [Nat.mul_assoc, Nat.mul_left_comm]
/-- The two limbs that a step writes. -/
theorem ShR.next {a d : List Int} {o s k : Nat} {x l m : Int} (h : ShR a o s k d) (ha : Lim a) (hs : s < 32) (hk : k < a.length) (hx : x = a.getD k 0 * 2 ^ s) (hl : l = d.getD (k + o) 0 + x % 4294967296) (hm : m = x / 4294967296) :
    ShR a o s (k + 1) ((d.set (k + o) l).set (k + o + 1) m) := by
  have h0 := ha.get k
  have h1 := h.lim.get (k + o)
  have h2 := h.top
  obtain ⟨p, hp, hpi, p1, p2, q, hpq, q2⟩ := pow_s hs
  rw [hpi] at hx h2
  obtain ⟨y, hy⟩ := Int.eq_ofNat_of_zero_le h0.1
  have hy1 : y ≤ 4294967295 := by have := h0.2; omega
  rw [hy] at hx
  obtain ⟨c, hc⟩ := Int.eq_ofNat_of_zero_le h1.1
  rw [hc] at hl h2
  obtain ⟨l0, l1, m0, m1, e⟩ := shr_lm (shr_low hpq q2) (shr_hi p1 hy1) p2 hx hl hm h2
  clear hx hl hm
  have m2 : m ≤ 4294967295 := by omega
  refine ⟨by rw [List.length_set, List.length_set, h.len], (h.lim.set _ l0 l1).set _ m0 m2, ?_, ?_, fun j hj => ?_⟩
  · have v1 := val_set d (k + o) l (by rw [h.len]; omega)
    have v2 := val_set (d.set (k + o) l) (k + o + 1) m (by rw [List.length_set, h.len]; omega)
    rw [getD_set_ne' (by omega), h.zero (k + o + 1) (by omega)] at v2
    rw [hc, Int.toNat_natCast] at v1
    rw [val_take_succ' a, hy, Nat.add_mul, ← h.eq, Int.toNat_natCast, shr_pow y p k o s hp]
    refine shr_val v1 ?_ e
    rw [Int.toNat_zero, Nat.mul_zero, Nat.add_zero, Nat.pow_succ] at v2
    exact v2
  · rw [show k + 1 + o = k + o + 1 by omega, getD_set_self (by rw [List.length_set, h.len]; omega), hpi]
    exact m1
  · rw [getD_set_ne' (by omega), getD_set_ne' (by omega)]
    exact h.zero j (by omega)
theorem ShR.done {a d : List Int} {o s : Nat} (h : ShR a o s a.length d) : val d = val a * 2 ^ (32 * o + s) := by rw [h.eq, List.take_length]

/-- Long division, bit by bit: k bits to do. -/
structure DmR (A b n k : Nat) (a d Q : Nat) : Prop where
  eq : A = a + Q * b
  lt : a < b * 2 ^ k
  dd : d = b * 2 ^ k / 2
  mul : Q % 2 ^ k = 0
  hi : Q < 2 ^ (n + 1)
theorem DmR.start {A b n : Nat} (hb : 0 < b) (h : n + bitsN b = bitsN A) : DmR A b n (n + 1) A (b * 2 ^ n) 0 := by
  refine ⟨by simp, ?_, ?_, by simp, Nat.two_pow_pos _⟩
  · have h1 := bitsN_hi A
    have h2 := bitsN_lo (n := b) (by omega)
    have h3 := bitsN_pos (n := b) (by omega)
    rw [← h] at h1
    have h4 : 2 ^ (bitsN b - 1) * 2 ^ (n + 1) ≤ b * 2 ^ (n + 1) := Nat.mul_le_mul_right _ h2
    rw [← Nat.pow_add, show bitsN b - 1 + (n + 1) = n + bitsN b by omega] at h4
    omega
  · rw [Nat.pow_succ, ← Nat.mul_assoc, Nat.mul_div_cancel _ (by decide)]
theorem DmR.d_eq {A b n k a d Q : Nat} (h : DmR A b n (k + 1) a d Q) : d = b * 2 ^ k := by
  rw [h.dd, Nat.pow_succ, ← Nat.mul_assoc, Nat.mul_div_cancel _ (by decide)]
theorem DmR.no {A b n k a d Q : Nat} (h : DmR A b n (k + 1) a d Q) (hlt : a < d) : DmR A b n k a (d / 2) Q := by
  have hd := h.d_eq
  refine ⟨h.eq, by omega, by rw [hd], ?_, h.hi⟩
  have := h.mul
  rw [Nat.pow_succ] at this
  exact Nat.mod_eq_zero_of_dvd (Nat.dvd_trans (Nat.dvd_mul_right _ _) (Nat.dvd_of_mod_eq_zero this))
theorem mul_gap {Q p m : Nat} (h1 : Q % (p * 2) = 0) (h2 : Q < p * 2 * m) : Q + p < p * 2 * m ∨ p = 0 := by
  rcases Nat.eq_zero_or_pos p with h | h
  · exact .inr h
  · left
    obtain ⟨t, rfl⟩ := Nat.dvd_of_mod_eq_zero h1
    have h3 : t < m := Nat.lt_of_mul_lt_mul_left h2
    have h4 : p * 2 * (t + 1) ≤ p * 2 * m := Nat.mul_le_mul_left _ h3
    rw [Nat.mul_add] at h4
    omega
theorem DmR.yes {A b n k a d Q : Nat} (h : DmR A b n (k + 1) a d Q) (hkn : k ≤ n) (hle : d ≤ a) : DmR A b n k (a - d) (d / 2) (Q + 2 ^ k) := by
  have hd := h.d_eq
  have h1 := h.eq
  have h2 := h.lt
  have h3 := h.mul
  have h4 := h.hi
  rw [Nat.pow_succ] at h3
  refine ⟨?_, ?_, by rw [hd], ?_, ?_⟩
  · rw [Nat.add_mul, Nat.mul_comm (2 ^ k) b, ← hd]; omega
  · rw [Nat.pow_succ] at h2
    rw [← Nat.mul_assoc, ← hd] at h2
    rw [← hd]
    omega
  · have e := Nat.mod_eq_zero_of_dvd (Nat.dvd_trans (Nat.dvd_mul_right (2 ^ k) 2) (Nat.dvd_of_mod_eq_zero h3))
    rw [Nat.add_mod, e]
    simp
  · have e : 2 ^ (n + 1) = 2 ^ k * 2 * 2 ^ (n - k) := by rw [← Nat.pow_succ, ← Nat.pow_add]; congr 1; omega
    rw [e] at h4 ⊢
    rcases mul_gap h3 h4 with h5 | h5
    · exact h5
    · have := Nat.two_pow_pos k; omega
theorem DmR.done {A b n a d Q : Nat} (h : DmR A b n 0 a d Q) : Q = A / b ∧ a = A % b := by
  have h1 := h.eq
  have h2 := h.lt
  simp only [Nat.pow_zero, Nat.mul_one] at h2
  have h3 : A = a + b * Q := by rw [h1, Nat.mul_comm]
  refine ⟨?_, ?_⟩
  · rw [h3, Nat.add_mul_div_left _ _ (by omega), Nat.div_eq_of_lt h2, Nat.zero_add]
  · rw [h3, Nat.add_mul_mod_self_left, Nat.mod_eq_of_lt h2]
theorem limb_of_val {q : List Int} (hq : Lim q) (j : Nat) : val q / 4294967296 ^ j % 4294967296 = (q.getD j 0).toNat := by
  have h1 : val q = val (q.take j) + 4294967296 ^ j * val (q.drop j) := by
    by_cases h : j ≤ q.length
    · exact val_take_drop q j h
    · rw [List.take_of_length_le (by omega), List.drop_eq_nil_of_le (by omega)]; simp [val]
  have h2 : val (q.take j) < 4294967296 ^ j := val_lt_pow (hq.take j) (by rw [List.length_take]; omega)
  have h3 := val_drop_any q j
  have h4 := hq.get j
  rw [h1, Nat.add_mul_div_left _ _ (Nat.pow_pos (by decide)), Nat.div_eq_of_lt h2, Nat.zero_add, h3]
  omega
/-- Setting a bit that is not set: the bits below are not set either. -/
theorem set_bit {q : List Int} (hq : Lim q) {k : Nat} (hk : k / 32 < q.length) (hm : val q % 2 ^ (k + 1) = 0) {z : Int} (hz : z = q.getD (k / 32) 0 + 2 ^ (k % 32)) :
    Lim (q.set (k / 32) z) ∧ val (q.set (k / 32) z) = val q + 2 ^ k ∧ (q.getD (k / 32) 0).toNat % 2 ^ (k % 32 + 1) = 0 := by
  have h1 := limb_of_val hq (k / 32)
  have h2 := hq.get (k / 32)
  have hs : k % 32 < 32 := Nat.mod_lt _ (by decide)
  obtain ⟨p, hp, hpi, p1, p2, r, hpr, r2⟩ := pow_s hs
  have hkk : 32 * (k / 32) + k % 32 = k := by omega
  have h3 : (q.getD (k / 32) 0).toNat % (2 * p) = 0 := by
    obtain ⟨t, ht⟩ := Nat.dvd_of_mod_eq_zero hm
    have e : 2 ^ (k + 1) = 4294967296 ^ (k / 32) * (2 * p) := by
      rw [pow32, ← hp, ← Nat.pow_succ', ← Nat.pow_add]; congr 1; omega
    rw [← h1, ht, e, Nat.mul_assoc, Nat.mul_div_cancel_left _ (Nat.pow_pos (by decide))]
    have e2 : 4294967296 = 2 * p * (r / 2) := by
      have e3 : r % 2 = 0 := by
        have hpow : ∃ m, r = 2 ^ m := ⟨32 - k % 32, by
          have e4 : p * 2 ^ (32 - k % 32) = 4294967296 := by rw [← hp, ← Nat.pow_add, show k % 32 + (32 - k % 32) = 32 by omega]
          exact Nat.eq_of_mul_eq_mul_left (by omega) (hpr.trans e4.symm)⟩
        obtain ⟨m, rfl⟩ := hpow
        cases m with
        | zero => simp at r2
        | succ m => rw [Nat.pow_succ]; omega
      have e5 : r = 2 * (r / 2) := by omega
      rw [Nat.mul_comm 2 p, Nat.mul_assoc, ← e5, hpr]
    conv => lhs; lhs; rw [e2]
    rw [Nat.mod_mul_right_mod, Nat.mul_mod_right]
  rw [hpi] at hz
  have h4 : z ≤ 4294967295 := by
    have e3 : (q.getD (k / 32) 0).toNat < p * 2 * (r / 2) + p * 2 := by
      have : (q.getD (k / 32) 0).toNat ≤ 4294967295 := by omega
      have e6 : p * 2 * (r / 2) + p * 2 ≥ 4294967296 := by
        have : p * r ≤ p * (2 * (r / 2) + 2) := Nat.mul_le_mul_left _ (by omega)
        rw [Nat.mul_add] at this
        rw [Nat.mul_assoc]
        omega
      omega
    have e7 := Nat.dvd_of_mod_eq_zero h3
    have e8 : 2 * p ∣ 4294967296 := by
      have e3 : k % 32 + 1 ≤ 32 := by omega
      have : (2 : Nat) ^ (k % 32 + 1) ∣ 2 ^ 32 := Nat.pow_dvd_pow 2 e3
      rw [Nat.pow_succ', hp] at this
      exact this
    obtain ⟨u, hu⟩ := e7
    obtain ⟨v, hv⟩ := e8
    have e9 : u < v := by
      have : 2 * p * u < 2 * p * v := by rw [← hu, ← hv]; omega
      exact Nat.lt_of_mul_lt_mul_left this
    have e10 : 2 * p * (u + 1) ≤ 2 * p * v := Nat.mul_le_mul_left _ e9
    rw [Nat.mul_add] at e10
    omega
  refine ⟨hq.set _ (by omega) h4, ?_, by rw [Nat.pow_succ', hp]; exact h3⟩
  have h5 := val_set q (k / 32) z hk
  have e : 2 ^ k = 4294967296 ^ (k / 32) * p := by rw [pow32, ← hp, ← Nat.pow_add, hkk]
  rw [e]
  have e6 : z.toNat = (q.getD (k / 32) 0).toNat + p := by omega
  rw [e6, Nat.mul_add] at h5
  omega
end Go.Proofs.YtkbgdiejjabdmaaDoor
