/- Plain: decimal notation of naturals, printed and read. -/
import Derived.Test.YtkbgdiejjabdmaaDoorPl
import Derived.Lib.ItoaNum
namespace Go.Proofs.YtkbgdiejjabdmaaDoor

theorem dec_small {n : Nat} (h : n < 10) : Lib.decDigits n = [UInt8.ofNat (48 + n)] := by rw [Lib.decDigits, dif_pos h]
theorem dec_big {n : Nat} (h : ¬ n < 10) : Lib.decDigits n = Lib.decDigits (n / 10) ++ [UInt8.ofNat (48 + n % 10)] := by rw [Lib.decDigits, dif_neg h]
theorem dg_toNat {k : Nat} (h : k < 10) : (UInt8.ofNat (48 + k)).toNat = 48 + k := by
  rw [UInt8.toNat_ofNat']
  exact Nat.mod_eq_of_lt (by omega)
theorem dec_val (n : Nat) : decVal (Lib.decDigits n) = n := by
  induction n using Nat.strongRecOn with
  | _ n ih =>
    by_cases h : n < 10
    · rw [dec_small h]
      show 0 * 10 + ((UInt8.ofNat (48 + n)).toNat - 48) = n
      rw [dg_toNat h]; omega
    · rw [dec_big h, decVal_snoc, ih (n / 10) (by omega), dg_toNat (by omega)]; omega
theorem isDig_dg {k : Nat} (h : k < 10) : isDig (UInt8.ofNat (48 + k)) = true := by
  unfold isDig
  rw [dg_toNat h]
  simp; omega
theorem head_app {α : Type} {l m : List α} (h : l ≠ []) : (l ++ m).head? = l.head? := by
  cases l with
  | nil => exact absurd rfl h
  | cons a l => rfl
theorem dec_all (n : Nat) : (Lib.decDigits n).all isDig = true := by
  induction n using Nat.strongRecOn with
  | _ n ih =>
    by_cases h : n < 10
    · rw [dec_small h]
      simp only [List.all_cons, List.all_nil, Bool.and_true]
      exact isDig_dg h
    · rw [dec_big h, List.all_append, ih (n / 10) (by omega)]
      simp only [List.all_cons, List.all_nil, Bool.and_true, Bool.true_and]
      exact isDig_dg (k := n % 10) (by omega)
theorem dec_ne (n : Nat) : Lib.decDigits n ≠ [] := by
  by_cases h : n < 10
  · rw [dec_small h]; simp
  · rw [dec_big h]; simp
theorem dec_head {n : Nat} (h0 : n ≠ 0) : (Lib.decDigits n).head? ≠ some 48 := by
  induction n using Nat.strongRecOn with
  | _ n ih =>
    by_cases h : n < 10
    · rw [dec_small h]
      intro h2
      have h3 : UInt8.ofNat (48 + n) = 48 := by simpa using h2
      have h4 := dg_toNat h
      rw [h3] at h4
      have h5 : (48 : UInt8).toNat = 48 := rfl
      omega
    · rw [dec_big h, head_app (dec_ne _)]
      exact ih (n / 10) (by omega) (by omega)
theorem dec_zero : Lib.decDigits 0 = [48] := dec_small (by decide)
theorem dec_err (n : Nat) : pErr (Lib.decDigits n) = if 400 < (Lib.decDigits n).length then 5 else 0 := by
  unfold pErr
  have h1 : ¬ (Lib.decDigits n = [] ∨ ((Lib.decDigits n).head? = some 48 ∧ 1 < (Lib.decDigits n).length)) := by
    rintro (h | ⟨h, h2⟩)
    · exact dec_ne n h
    · by_cases h0 : n = 0
      · subst h0; rw [dec_zero] at h2; simp at h2
      · exact dec_head h0 h
  rw [if_neg h1, if_neg (by rw [dec_all]; decide)]
theorem dec_pval {n : Nat} (h : (Lib.decDigits n).length ≤ 400) : pVal (Lib.decDigits n) = n := by
  have h1 : pErr (Lib.decDigits n) = 0 := by rw [dec_err, if_neg (by omega)]
  unfold pVal
  rw [if_pos h1, dec_val]
theorem isDig_sub {c : UInt8} (h : isDig c = true) : c.toNat - 48 < 10 ∧ UInt8.ofNat (48 + (c.toNat - 48)) = c := by
  unfold isDig at h
  simp only [Bool.and_eq_true, decide_eq_true_eq] at h
  refine ⟨by omega, ?_⟩
  rw [show 48 + (c.toNat - 48) = c.toNat by omega]
  exact UInt8.ofNat_toNat
theorem snoc_of {α : Type} {l : List α} (h : l ≠ []) : ∃ a c, l = a ++ [c] := by
  rcases List.eq_nil_or_concat l with h2 | ⟨a, c, h2⟩
  · exact absurd h2 h
  · exact ⟨a, c, by simpa using h2⟩
theorem decVal_pos : ∀ (k : Nat) (l : List UInt8), l.length = k → l ≠ [] → l.head? ≠ some 48 → l.all isDig = true → 0 < decVal l := by
  intro k
  induction k with
  | zero => intro l h h2; exact absurd (List.eq_nil_of_length_eq_zero h) h2
  | succ k ih =>
    intro l hl hne hh ha
    obtain ⟨a, c, rfl⟩ := snoc_of hne
    rw [List.all_append] at ha
    simp only [Bool.and_eq_true, List.all_cons, List.all_nil, Bool.and_true] at ha
    by_cases h0 : a = []
    · subst h0
      have h1 := isDig_sub ha.2
      have h2 : c ≠ 48 := fun h => hh (by rw [h]; rfl)
      show 0 < 0 * 10 + (c.toNat - 48)
      rcases Nat.eq_zero_or_pos (c.toNat - 48) with h3 | h3
      · rw [h3] at h1
        exact absurd h1.2.symm h2
      · omega
    · rw [head_app h0] at hh
      have := ih a (by simpa using hl) h0 hh ha.1
      rw [decVal_snoc]; omega
theorem dec_of : ∀ (k : Nat) (l : List UInt8), l.length = k → l ≠ [] → (l.head? = some 48 → l.length ≤ 1) → l.all isDig = true → Lib.decDigits (decVal l) = l := by
  intro k
  induction k with
  | zero => intro l h h2; exact absurd (List.eq_nil_of_length_eq_zero h) h2
  | succ k ih =>
    intro l hl hne hh ha
    obtain ⟨a, c, rfl⟩ := snoc_of hne
    rw [List.all_append] at ha
    simp only [Bool.and_eq_true, List.all_cons, List.all_nil, Bool.and_true] at ha
    have h1 := isDig_sub ha.2
    by_cases h0 : a = []
    · subst h0
      have h2 : decVal ([] ++ [c]) = c.toNat - 48 := by show 0 * 10 + (c.toNat - 48) = _; omega
      rw [h2, dec_small h1.1, h1.2]; rfl
    · have hla : 0 < a.length := List.length_pos_iff.2 h0
      have h3 : a.head? ≠ some 48 := fun h => by
        have := hh (by rw [head_app h0]; exact h)
        rw [List.length_append, List.length_singleton] at this
        omega
      have h4 := decVal_pos _ a rfl h0 h3 ha.1
      have h5 := ih a (by simpa using hl) h0 (fun h => absurd h h3) ha.1
      have h6 : ¬ decVal a * 10 + (c.toNat - 48) < 10 := by omega
      rw [decVal_snoc, dec_big h6, show (decVal a * 10 + (c.toNat - 48)) / 10 = decVal a by omega, show (decVal a * 10 + (c.toNat - 48)) % 10 = c.toNat - 48 by omega, h5, h1.2]
theorem dec_parse {l : List UInt8} (h : pErr l = 0) : Lib.decDigits (pVal l) = l := by
  have h0 := h
  unfold pErr at h
  split at h
  · cases h
  · rename_i h1
    split at h
    · cases h
    · rename_i h2
      split at h
      · cases h
      · unfold pVal
        rw [if_pos h0]
        refine dec_of _ l rfl (fun h => h1 (.inl h)) (fun h => ?_) (by simpa using h2)
        rcases Nat.lt_or_ge 1 l.length with h4 | h4
        · exact absurd (.inr ⟨h, h4⟩) h1
        · exact h4
/-- k digits behind a number above 0, with zeros ahead. -/
theorem dec_pad (k : Nat) : ∀ (q r : Nat), 0 < q → r < 10 ^ (k + 1) → Lib.decDigits (q * 10 ^ (k + 1) + r) = Lib.decDigits q ++ (List.replicate (k + 1 - (Lib.decDigits r).length) 48 ++ Lib.decDigits r) := by
  induction k with
  | zero =>
    intro q r hq hr
    simp only [Nat.zero_add, Nat.pow_one] at hr ⊢
    rw [dec_big (by omega), dec_small hr, show (q * 10 + r) / 10 = q by omega, show (q * 10 + r) % 10 = r by omega]
    rfl
  | succ k ih =>
    intro q r hq hr
    obtain ⟨P, hP⟩ : ∃ P, P = 10 ^ (k + 1) := ⟨_, rfl⟩
    have hr' : r < P * 10 := by rw [hP, ← Nat.pow_succ]; exact hr
    have e1 : 10 ^ (k + 1 + 1) = P * 10 := by rw [hP, ← Nat.pow_succ]
    have hP0 : 0 < P := by rw [hP]; exact Nat.pow_pos (by decide)
    have hqP : 1 * P ≤ q * P := Nat.mul_le_mul_right _ hq
    have e2 : q * 10 ^ (k + 1 + 1) = q * P * 10 := by rw [e1, Nat.mul_assoc]
    have h := ih q (r / 10) hq (by rw [← hP]; omega)
    rw [← hP] at h
    rw [e2, dec_big (by omega), show (q * P * 10 + r) / 10 = q * P + r / 10 by omega, show (q * P * 10 + r) % 10 = r % 10 by omega, h]
    by_cases h9 : r < 10
    · rw [dec_small h9, show r / 10 = 0 by omega, dec_zero, show r % 10 = r by omega]
      simp only [List.length_singleton, Nat.add_sub_cancel, List.append_assoc]
      rw [List.replicate_succ', List.append_assoc]
    · rw [dec_big h9]
      simp only [List.length_append, List.length_singleton, List.append_assoc]
      rw [show k + 1 + 1 - ((Lib.decDigits (r / 10)).length + 1) = k + 1 - (Lib.decDigits (r / 10)).length by omega]
theorem dec_len_le (k : Nat) {n : Nat} (h : n < 10 ^ k) (hk : 0 < k) : (Lib.decDigits n).length ≤ k := by
  rw [Lib.decDigits_length]
  induction k generalizing n with
  | zero => cases hk
  | succ k ih =>
    by_cases h9 : n < 10
    · rw [Lib.nDigits_small h9]; omega
    · rw [Lib.nDigits_big h9]
      rcases Nat.eq_zero_or_pos k with h0 | h0
      · subst h0; simp at h; omega
      · have := ih (n := n / 10) (by rw [Nat.pow_succ] at h; omega) h0
        omega
/-- One step of printing in the base 10^9. -/
theorem dec_step {n m r : Nat} (hm : m = n / 1000000000) (hr : r = n % 1000000000) : Lib.decDigits n = if m = 0 then Lib.decDigits r else Lib.decDigits m ++ (List.replicate (9 - (Lib.decDigits r).length) 48 ++ Lib.decDigits r) := by
  by_cases h : m = 0
  · rw [if_pos h, show r = n by omega]
  · rw [if_neg h]
    have h1 := dec_pad 8 m r (by omega) (by omega)
    have h2 : m * 10 ^ (8 + 1) + r = n := by
      have : (10 : Nat) ^ (8 + 1) = 1000000000 := rfl
      rw [this]; omega
    rw [h2] at h1
    exact h1
theorem dec_len9 {r : Nat} (h : r < 1000000000) : (Lib.decDigits r).length ≤ 9 := dec_len_le 9 (by simpa using h) (by decide)
/-- The digits of n by their places, where k of them are all. -/
theorem dec_places {n k : Nat} (hk : 0 < k) (h1 : n < 10 ^ k) (h2 : k = 1 ∨ 10 ^ (k - 1) ≤ n) : Lib.decDigits n = (List.range k).map fun t => UInt8.ofNat (48 + n / 10 ^ (k - 1 - t) % 10) := by
  have h3 : Lib.nDigits n = k := by
    obtain ⟨j, rfl⟩ : ∃ j, k = j + 1 := ⟨k - 1, by omega⟩
    rw [Nat.add_sub_cancel] at h2
    rcases h2 with h2 | h2
    · have : j = 0 := by omega
      subst this
      exact Lib.nDigits_small (by simpa using h1)
    · exact Lib.nDigits_unique j n h2 h1
  rw [Lib.decDigits_eq, h3]
  rfl
end Go.Proofs.YtkbgdiejjabdmaaDoor
