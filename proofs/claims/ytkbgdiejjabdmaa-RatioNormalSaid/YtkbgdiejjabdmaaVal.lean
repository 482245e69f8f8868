/- Plain facts on lists of limbs, their values and normal forms. -/
namespace Go.Proofs.Ytkbgdiejjabdmaa
/-- The value of a list of limbs. -/
def val : List Int → Nat
  | [] => 0
  | x :: xs => x.toNat + 4294967296 * val xs
/-- Every limb is one. -/
def Lim (l : List Int) : Prop := ∀ x ∈ l, 0 ≤ x ∧ x ≤ 4294967295
theorem Lim.nil : Lim [] := by intro x h; cases h
theorem Lim.cons {x : Int} {l : List Int} (h0 : 0 ≤ x) (h1 : x ≤ 4294967295) (h : Lim l) : Lim (x :: l) := by
  intro y hy
  rcases List.mem_cons.1 hy with rfl | hy
  · exact ⟨h0, h1⟩
  · exact h y hy
theorem Lim.head {x : Int} {l : List Int} (h : Lim (x :: l)) : 0 ≤ x ∧ x ≤ 4294967295 := h x (List.mem_cons_self ..)
theorem Lim.tail {x : Int} {l : List Int} (h : Lim (x :: l)) : Lim l := fun y hy => h y (List.mem_cons_of_mem _ hy)
theorem Lim.append {l m : List Int} (h : Lim l) (k : Lim m) : Lim (l ++ m) := by
  intro y hy
  rcases List.mem_append.1 hy with hy | hy
  · exact h y hy
  · exact k y hy
theorem Lim.take {l : List Int} (h : Lim l) (n : Nat) : Lim (l.take n) := fun y hy => h y (List.mem_of_mem_take hy)
theorem Lim.drop {l : List Int} (h : Lim l) (n : Nat) : Lim (l.drop n) := fun y hy => h y (List.mem_of_mem_drop hy)
theorem Lim.get {l : List Int} (h : Lim l) (i : Nat) : 0 ≤ l.getD i 0 ∧ l.getD i 0 ≤ 4294967295 := by
  rw [List.getD_eq_getElem?_getD]
  by_cases hi : i < l.length
  · rw [List.getElem?_eq_getElem hi]; exact h _ (List.getElem_mem hi)
  · rw [List.getElem?_eq_none (by omega)]; simp
theorem Lim.set {l : List Int} (h : Lim l) (i : Nat) {x : Int} (h0 : 0 ≤ x) (h1 : x ≤ 4294967295) : Lim (l.set i x) := by
  intro y hy
  rcases List.mem_or_eq_of_mem_set hy with hy | rfl
  · exact h y hy
  · exact ⟨h0, h1⟩
theorem Lim.replicate (n : Nat) : Lim (List.replicate n 0) := by
  intro y hy
  have := List.eq_of_mem_replicate hy
  omega
theorem val_append (l m : List Int) : val (l ++ m) = val l + 4294967296 ^ l.length * val m := by
  induction l with
  | nil => simp [val]
  | cons x l ih => simp only [List.cons_append, val, ih, List.length_cons, Nat.pow_succ]; grind
theorem val_replicate (n : Nat) : val (List.replicate n 0) = 0 := by
  induction n with
  | zero => rfl
  | succ n ih => simp [List.replicate_succ, val, ih]
theorem val_lt {l : List Int} (h : Lim l) : val l < 4294967296 ^ l.length := by
  induction l with
  | nil => simp [val]
  | cons x l ih =>
    have h1 := ih h.tail
    have h2 := h.head
    simp only [val, List.length_cons, Nat.pow_succ]
    omega
theorem val_take_drop (l : List Int) (n : Nat) (h : n ≤ l.length) : val l = val (l.take n) + 4294967296 ^ n * val (l.drop n) := by
  have := val_append (l.take n) (l.drop n)
  rw [List.take_append_drop] at this
  rw [this, List.length_take, Nat.min_eq_left h]
theorem val_snoc (l : List Int) (x : Int) : val (l ++ [x]) = val l + 4294967296 ^ l.length * x.toNat := by
  rw [val_append]; simp [val]
theorem val_take_succ (l : List Int) (n : Nat) (h : n < l.length) : val (l.take (n + 1)) = val (l.take n) + 4294967296 ^ n * (l.getD n 0).toNat := by
  rw [List.take_succ_eq_append_getElem h, val_snoc, List.length_take, Nat.min_eq_left (Nat.le_of_lt h), List.getD_eq_getElem?_getD, List.getElem?_eq_getElem h]; rfl
theorem val_set (l : List Int) (i : Nat) (x : Int) (h : i < l.length) : val (l.set i x) + 4294967296 ^ i * (l.getD i 0).toNat = val l + 4294967296 ^ i * x.toNat := by
  induction l generalizing i with
  | nil => simp at h
  | cons y l ih =>
    cases i with
    | zero => simp [val]; omega
    | succ i =>
      have := ih i (by simpa using h)
      simp only [List.set_cons_succ, val, List.getD_cons_succ, Nat.pow_succ]
      grind
/-- The limbs of a number, in normal form. -/
def limbs (n : Nat) : List Int := if h : n = 0 then [] else ((n % 4294967296 : Nat) : Int) :: limbs (n / 4294967296)
termination_by n
decreasing_by omega
theorem limbs_zero : limbs 0 = [] := by rw [limbs]; simp
theorem limbs_pos {n : Nat} (h : n ≠ 0) : limbs n = ((n % 4294967296 : Nat) : Int) :: limbs (n / 4294967296) := by rw [limbs, dif_neg h]
theorem val_limbs (n : Nat) : val (limbs n) = n := by
  induction n using Nat.strongRecOn with
  | _ n ih =>
    by_cases h : n = 0
    · subst h; rw [limbs_zero]; rfl
    · rw [limbs_pos h]
      simp only [val, ih (n / 4294967296) (by omega)]
      omega
theorem limbs_lim (n : Nat) : Lim (limbs n) := by
  induction n using Nat.strongRecOn with
  | _ n ih =>
    by_cases h : n = 0
    · subst h; rw [limbs_zero]; exact Lim.nil
    · rw [limbs_pos h]
      exact Lim.cons (by omega) (by omega) (ih _ (by omega))
/-- Normal: no high zero limb. -/
def Nrm (l : List Int) : Prop := l = [] ∨ l.getLast? ≠ some 0
theorem limbs_val {l : List Int} (h : Lim l) (hn : l = [] ∨ ∀ x, l.getLast? = some x → x ≠ 0) : limbs (val l) = l := by
  induction l with
  | nil => rw [val, limbs_zero]
  | cons x l ih =>
    have h1 := h.head
    have hv : val (x :: l) ≠ 0 := by
      cases l with
      | nil =>
        rcases hn with hn | hn
        · cases hn
        · have := hn x (by simp)
          simp only [val]; omega
      | cons y l =>
        have h2 : val (y :: l) ≠ 0 := by
          intro h0
          have h3 := ih h.tail (.inr fun z hz => by
            rcases hn with hn | hn
            · cases hn
            · exact hn z (by simpa using hz))
          rw [h0, limbs_zero] at h3
          cases h3
        simp only [val] at h2 ⊢; omega
    rw [limbs_pos hv]
    have h2 : (val (x :: l) % 4294967296 : Nat) = x.toNat := by simp only [val]; omega
    have h3 : val (x :: l) / 4294967296 = val l := by simp only [val]; omega
    rw [h2, h3]
    congr 1
    · omega
    · cases l with
      | nil => rw [val, limbs_zero]
      | cons y l => exact ih h.tail (.inr fun z hz => by
            rcases hn with hn | hn
            · cases hn
            · exact hn z (by simpa using hz))
theorem limbs_last (n : Nat) : ∀ x, (limbs n).getLast? = some x → x ≠ 0 := by
  induction n using Nat.strongRecOn with
  | _ n ih =>
    intro x hx
    by_cases h : n = 0
    · subst h; rw [limbs_zero] at hx; cases hx
    · rw [limbs_pos h] at hx
      by_cases hd : n / 4294967296 = 0
      · rw [hd, limbs_zero] at hx
        simp at hx
        omega
      · have := ih (n / 4294967296) (by omega) x
        apply this
        rw [limbs_pos hd] at hx ⊢
        simpa using hx
theorem limbs_length_le {n k : Nat} (h : n < 4294967296 ^ k) : (limbs n).length ≤ k := by
  induction k generalizing n with
  | zero => have : n = 0 := by simpa using h
            subst this; rw [limbs_zero]; simp
  | succ k ih =>
    by_cases h0 : n = 0
    · subst h0; rw [limbs_zero]; simp
    · rw [limbs_pos h0]
      have := ih (n := n / 4294967296) (by rw [Nat.div_lt_iff_lt_mul (by decide)]; rwa [Nat.pow_succ] at h)
      simp; omega
theorem limbs_length_lt {n k : Nat} (h : 4294967296 ^ k ≤ n) : k < (limbs n).length := by
  have h1 := val_lt (limbs_lim n)
  rw [val_limbs] at h1
  exact (Nat.pow_lt_pow_iff_right (by decide : 1 < 4294967296)).1 (Nat.lt_of_le_of_lt h h1)
theorem limbs_inj {m n : Nat} (h : limbs m = limbs n) : m = n := by rw [← val_limbs m, h, val_limbs]
theorem limbs_nil {n : Nat} : limbs n = [] ↔ n = 0 := ⟨fun h => by rw [← val_limbs n, h]; rfl, fun h => by rw [h, limbs_zero]⟩
/-- A number's top limb. -/
theorem val_top {l : List Int} {k : Nat} (hk : l.length = k + 1) (hl : Lim l) (h : l.getD k 0 ≠ 0) : 4294967296 ^ k ≤ val l := by
  have h1 := val_take_drop l k (by omega)
  have h2 : val (l.drop k) = (l.getD k 0).toNat := by
    rw [List.drop_eq_getElem_cons (by omega), List.drop_eq_nil_of_le (by omega), List.getD_eq_getElem?_getD, List.getElem?_eq_getElem (by omega)]
    simp [val]
  have h3 := hl.get k
  have h4 : 1 ≤ (l.getD k 0).toNat := by omega
  have h5 : 4294967296 ^ k * 1 ≤ 4294967296 ^ k * (l.getD k 0).toNat := Nat.mul_le_mul_left _ h4
  rw [h1, h2]; omega
/-- Cutting high zero limbs gives the normal form. -/
theorem limbs_of_cut {l : List Int} {k : Nat} (hl : Lim l) (hk : k ≤ l.length) (hz : ∀ i, k ≤ i → i < l.length → l.getD i 0 = 0) (ht : k = 0 ∨ l.getD (k - 1) 0 ≠ 0) : l.take k = limbs (val l) := by
  have h1 : val l = val (l.take k) := by
    rw [val_take_drop l k hk]
    have : val (l.drop k) = 0 := by
      have : l.drop k = List.replicate (l.length - k) 0 := by
        apply List.ext_getElem
        · simp
        · intro i h1 h2
          have h3 := hz (k + i) (by omega) (by simp at h1; omega)
          rw [List.getD_eq_getElem?_getD, List.getElem?_eq_getElem (by simp at h1; omega)] at h3
          simpa using h3
      rw [this, val_replicate]
    rw [this]; rfl
  rw [h1]
  refine (limbs_val (hl.take k) ?_).symm
  rcases ht with rfl | ht
  · left; simp
  · by_cases hk0 : k = 0
    · subst hk0; left; simp
    right
    intro x hx
    rw [List.getLast?_eq_getElem?, List.length_take, Nat.min_eq_left hk, List.getElem?_take, if_pos (by omega)] at hx
    rw [List.getD_eq_getElem?_getD, hx] at ht
    simpa using ht
theorem limbs_mono {m n : Nat} (h : m ≤ n) : (limbs m).length ≤ (limbs n).length := by
  have h1 := val_lt (limbs_lim n)
  rw [val_limbs] at h1
  exact limbs_length_le (Nat.lt_of_le_of_lt h h1)
theorem lt_of_limbs {m n : Nat} (h : (limbs m).length < (limbs n).length) : m < n := by
  rcases Nat.lt_or_ge m n with h' | h'
  · exact h'
  · have := limbs_mono h'; omega
/-- The highest limb that differs decides. -/
theorem val_lt_of_limb {x y : List Int} (hx : Lim x) (hy : Lim y) (hl : x.length = y.length) {i : Nat} (hi : i < x.length) (he : ∀ j, i < j → j < x.length → x.getD j 0 = y.getD j 0) (h : x.getD i 0 < y.getD i 0) : val x < val y := by
  have hd : x.drop (i + 1) = y.drop (i + 1) := by
    apply List.ext_getElem
    · simp [hl]
    · intro j h1 h2
      have h3 := he (i + 1 + j) (by omega) (by simp at h1; omega)
      rw [List.getD_eq_getElem?_getD, List.getD_eq_getElem?_getD, List.getElem?_eq_getElem (by simp at h1; omega), List.getElem?_eq_getElem (by simp at h2; omega)] at h3
      simpa using h3
  have h1 := val_take_drop x (i + 1) (by omega)
  have h2 := val_take_drop y (i + 1) (by omega)
  rw [hd] at h1
  have h3 := val_take_succ x i hi
  have h4 := val_take_succ y i (by omega)
  have h5 := val_lt (hx.take i)
  rw [List.length_take, Nat.min_eq_left (by omega)] at h5
  have h6 := hx.get i
  have h7 := hy.get i
  have h8 : (x.getD i 0).toNat + 1 ≤ (y.getD i 0).toNat := by omega
  have h9 : 4294967296 ^ i * ((x.getD i 0).toNat + 1) ≤ 4294967296 ^ i * (y.getD i 0).toNat := Nat.mul_le_mul_left _ h8
  rw [Nat.mul_add] at h9
  omega
theorem eq_of_getD {x y : List Int} (hl : x.length = y.length) (he : ∀ j, j < x.length → x.getD j 0 = y.getD j 0) : x = y := by
  apply List.ext_getElem hl
  intro j h1 h2
  have h3 := he j h1
  rw [List.getD_eq_getElem?_getD, List.getD_eq_getElem?_getD, List.getElem?_eq_getElem h1, List.getElem?_eq_getElem h2] at h3
  simpa using h3
/-- -1, 0 or 1. -/
def cmpN (m n : Nat) : Int := if m < n then -1 else if n < m then 1 else 0
/-- How many bits a number has. -/
def bitsN (n : Nat) : Nat := if n = 0 then 0 else Nat.log2 n + 1
theorem bitsN_eq {n k : Nat} (h1 : 2 ^ k ≤ n) (h2 : n < 2 ^ (k + 1)) : bitsN n = k + 1 := by
  have h0 : n ≠ 0 := by have := Nat.two_pow_pos k; omega
  unfold bitsN
  rw [if_neg h0, (Nat.log2_eq_iff h0).2 ⟨h1, h2⟩]
theorem bitsN_lo {n : Nat} (h : n ≠ 0) : 2 ^ (bitsN n - 1) ≤ n := by
  unfold bitsN
  rw [if_neg h, Nat.add_sub_cancel]
  exact Nat.log2_self_le h
theorem bitsN_hi (n : Nat) : n < 2 ^ bitsN n := by
  unfold bitsN
  by_cases h : n = 0
  · subst h; simp
  · rw [if_neg h]; exact Nat.lt_log2_self
theorem bitsN_pos {n : Nat} (h : n ≠ 0) : 0 < bitsN n := by unfold bitsN; rw [if_neg h]; omega
theorem bitsN_zero {n : Nat} : bitsN n = 0 ↔ n = 0 := ⟨fun h => by
  rcases Nat.eq_zero_or_pos n with h0 | h0
  · exact h0
  · have := bitsN_pos (n := n) (by omega); omega, fun h => by subst h; rfl⟩
theorem pow32 (k : Nat) : (4294967296 : Nat) ^ k = 2 ^ (32 * k) := by rw [Nat.pow_mul]
/-- The bits of a number by its highest limb. -/
theorem bitsN_top {xs : List Int} (hl : Lim xs) {k b : Nat} (hk : xs.length = k + 1) (h1 : 2 ^ b ≤ (xs.getD k 0).toNat) (h2 : (xs.getD k 0).toNat < 2 ^ (b + 1)) : bitsN (val xs) = 32 * k + b + 1 := by
  have h3 := val_take_succ xs k (by omega)
  rw [← hk, List.take_length] at h3
  have h4 := val_lt (hl.take k)
  rw [List.length_take, Nat.min_eq_left (by omega), pow32] at h4
  rw [pow32] at h3
  refine bitsN_eq ?_ ?_
  · rw [h3, Nat.pow_add]
    have := Nat.mul_le_mul_left (2 ^ (32 * k)) h1
    omega
  · rw [h3, Nat.add_assoc, Nat.pow_add]
    have h5 : 2 ^ (32 * k) * ((xs.getD k 0).toNat + 1) ≤ 2 ^ (32 * k) * 2 ^ (b + 1) := Nat.mul_le_mul_left _ h2
    rw [Nat.mul_add] at h5
    omega
/-- A number in normal form has its highest limb above 0. -/
theorem limbs_top {n k : Nat} (h : (limbs n).length = k + 1) : (limbs n).getD k 0 ≠ 0 := by
  apply limbs_last n
  rw [List.getLast?_eq_getElem?, h, Nat.add_sub_cancel, List.getD_eq_getElem?_getD, List.getElem?_eq_getElem (by omega)]
  rfl
theorem val_two {xs : List Int} (h : xs.length ≤ 2) : val xs = (xs.getD 0 0).toNat + 4294967296 * (xs.getD 1 0).toNat := by
  match xs, h with
  | [], _ => simp [val]
  | [x], _ => simp [val]
  | [x, y], _ => simp [val]
end Go.Proofs.Ytkbgdiejjabdmaa
