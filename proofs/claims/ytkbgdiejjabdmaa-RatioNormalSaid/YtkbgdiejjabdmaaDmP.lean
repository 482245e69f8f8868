/- Plain: the long division, round by round. -/
import Derived.Test.YtkbgdiejjabdmaaSbP
namespace Go.Proofs.Ytkbgdiejjabdmaa

theorem far_zero {l : List Int} (hl : Lim l) {m : Nat} (h : val l < 4294967296 ^ m) : ∀ i, m ≤ i → l.getD i 0 = 0 := by
  intro i hi
  have h1 := hl.get i
  rcases Int.lt_or_le 0 (l.getD i 0) with h2 | h2
  · exfalso
    have hlen : i < l.length := by
      rcases Nat.lt_or_ge i l.length with h3 | h3
      · exact h3
      · rw [List.getD_eq_getElem?_getD, List.getElem?_eq_none h3] at h2
        exact absurd h2 (by decide)
    have h3 := val_take_drop l (i + 1) (by omega)
    have h4 := val_take_succ l i hlen
    have h5 : 4294967296 ^ m ≤ 4294967296 ^ i := Nat.pow_le_pow_right (by decide) hi
    have h6 : 4294967296 ^ i * 1 ≤ 4294967296 ^ i * (l.getD i 0).toNat := Nat.mul_le_mul_left _ (by omega)
    omega
  · omega
theorem val_of_far {l : List Int} {m : Nat} (hm : m ≤ l.length) (h : ∀ i, m ≤ i → l.getD i 0 = 0) : val l = val (l.take m) := by
  rw [val_take_drop l m hm]
  have : l.drop m = List.replicate (l.length - m) 0 := by
    apply List.ext_getElem
    · simp
    · intro i h1 h2
      have h3 := h (m + i) (by omega)
      rw [List.getD_eq_getElem?_getD, List.getElem?_eq_getElem (by simp at h1; omega)] at h3
      simpa using h3
  rw [this, val_replicate]
  rfl
theorem lt_of_far {l : List Int} (hl : Lim l) {m : Nat} (h : ∀ i, m ≤ i → l.getD i 0 = 0) : val l < 4294967296 ^ m := by
  by_cases hm : m ≤ l.length
  · rw [val_of_far hm h]
    have := val_lt (hl.take m)
    rwa [List.length_take, Nat.min_eq_left hm] at this
  · exact Nat.lt_of_lt_of_le (val_lt hl) (Nat.pow_le_pow_right (by decide) (by omega))
/-- The three highest limbs of a list, and what lies below them. -/
theorem val_three {l : List Int} (hl : Lim l) {n : Nat} (h : ∀ i, n + 3 ≤ i → l.getD i 0 = 0) : ∃ ur, ur < 4294967296 ^ n ∧ val l = (((l.getD (n + 2) 0).toNat * 4294967296 + (l.getD (n + 1) 0).toNat) * 4294967296 + (l.getD n 0).toNat) * 4294967296 ^ n + ur := by
  have e : val l = val (l.take (n + 3)) := by
    by_cases hm : n + 3 ≤ l.length
    · exact val_of_far hm h
    · rw [List.take_of_length_le (by omega)]
  have h1 := val_take_succ' l (n + 2)
  have h2 := val_take_succ' l (n + 1)
  have h3 := val_take_succ' l n
  refine ⟨val (l.take n), ?_, ?_⟩
  · exact Nat.lt_of_lt_of_le (val_lt (hl.take n)) (Nat.pow_le_pow_right (by decide) (by rw [List.length_take]; omega))
  · rw [e, h1, h2, h3, Nat.pow_succ, Nat.pow_succ]
    grind
theorem val_two' {l : List Int} (hl : Lim l) {n : Nat} (hn : l.length = n + 2) : ∃ vr, vr < 4294967296 ^ n ∧ val l = ((l.getD (n + 1) 0).toNat * 4294967296 + (l.getD n 0).toNat) * 4294967296 ^ n + vr := by
  have h2 := val_take_succ' l (n + 1)
  have h3 := val_take_succ' l n
  rw [← hn, List.take_length] at h2
  refine ⟨val (l.take n), ?_, ?_⟩
  · exact Nat.lt_of_lt_of_le (val_lt (hl.take n)) (Nat.pow_le_pow_right (by decide) (by rw [List.length_take]; omega))
  · rw [h2, h3, Nat.pow_succ]
    grind

structure DmS (T VV k N M : Nat) (D Q : List Int) : Prop where
  dl : D.length = N
  dlim : Lim D
  ql : Q.length = M
  qlim : Lim Q
  q0 : ∀ i, i < k → Q.getD i 0 = 0
  eq : T = val Q * VV + val D
  lt : val D < VV * 4294967296 ^ k
theorem DmS.start {T VV k N M : Nat} {D : List Int} (h1 : D.length = N) (h2 : Lim D) (h3 : val D = T) (h4 : T < VV * 4294967296 ^ k) : DmS T VV k N M D (List.replicate M 0) :=
  ⟨h1, h2, by simp, Lim.replicate _, fun i _ => by rw [List.getD_eq_getElem?_getD, List.getElem?_replicate]; split <;> rfl, by rw [val_replicate, h3]; omega, by rw [h3]; exact h4⟩
theorem DmS.next {T VV k N M : Nat} {D D' Q : List Int} {q : Int} (h : DmS T VV (k + 1) N M D Q) (hk : k < M) (hkN : k ≤ N) (hl : D'.length = N) (hlim : Lim D') (ht : D'.take k = D.take k) (q0 : 0 ≤ q) (q1 : q ≤ 4294967295)
    (he : val (D'.drop k) + q.toNat * VV = val (D.drop k)) (hr : val (D'.drop k) < VV) : DmS T VV k N M D' (Q.set k q) := by
  have e1 := val_take_drop D k (by rw [h.dl]; exact hkN)
  have e2 := val_take_drop D' k (by rw [hl]; exact hkN)
  rw [ht] at e2
  have e3 := val_set Q k q (by rw [h.ql]; exact hk)
  rw [h.q0 k (by omega)] at e3
  have e4 := h.eq
  refine ⟨hl, hlim, by simp [h.ql], h.qlim.set k q0 q1, fun i hi => by rw [getD_set_ne' (by omega)]; exact h.q0 i (by omega), ?_, ?_⟩
  · have e5 : val (Q.set k q) = val Q + 4294967296 ^ k * q.toNat := by simpa using e3
    rw [e5, Nat.add_mul, e2, e4, e1, ← he]
    grind
  · have e6 : val (D.take k) < 4294967296 ^ k := Nat.lt_of_lt_of_le (val_lt (h.dlim.take k)) (Nat.pow_le_pow_right (by decide) (by rw [List.length_take]; omega))
    have e7 : 4294967296 ^ k * (val (D'.drop k) + 1) ≤ 4294967296 ^ k * VV := Nat.mul_le_mul_left _ hr
    rw [e2, Nat.mul_comm VV]
    rw [Nat.mul_add] at e7
    omega
/-- The part of the dividend that a round divides. -/
theorem DmS.part {T VV k N M : Nat} {D Q : List Int} (h : DmS T VV (k + 1) N M D Q) (hkN : k ≤ N) : val (D.drop k) < VV * 4294967296 := by
  have e1 := val_take_drop D k (by rw [h.dl]; exact hkN)
  have e2 := h.lt
  rcases Nat.lt_or_ge (val (D.drop k)) (VV * 4294967296) with h3 | h3
  · exact h3
  · exfalso
    have e3 : 4294967296 ^ k * (VV * 4294967296) ≤ 4294967296 ^ k * val (D.drop k) := Nat.mul_le_mul_left _ h3
    have e4 : VV * 4294967296 ^ (k + 1) = 4294967296 ^ k * (VV * 4294967296) := by rw [Nat.pow_succ]; grind
    omega
/-- The digit was right. -/
theorem sb_right {D0 y D1 : List Int} {j : Nat} {dg : Int} (h : SbE D0 y j dg D1 false) (hq : val (D0.drop j) / val y ≤ dg.toNat) (hV : 0 < val y) :
    val (D1.drop j) + dg.toNat * val y = val (D0.drop j) ∧ val (D1.drop j) < val y := by
  have h1 := h.eq
  simp only [Bool.false_eq_true, if_false, Nat.add_zero] at h1
  refine ⟨h1, ?_⟩
  have h2 : val (D0.drop j) < val y * (val (D0.drop j) / val y + 1) := Nat.lt_mul_div_succ _ hV
  have h3 : val y * (val (D0.drop j) / val y + 1) ≤ val y * (dg.toNat + 1) := Nat.mul_le_mul_left _ (by omega)
  have h4 : val y * (dg.toNat + 1) = dg.toNat * val y + val y := by grind
  omega
theorem back_core {P E1 E2 E0 V dg o : Nat} (e1 : E1 + dg * V = E0 + P) (e2 : E2 + P * o = E1 + V) (f1 : E1 < P) (f2 : E2 < P) (f3 : V < P) (hup : dg * V < E0 + V) : 1 ≤ dg ∧ E2 + (dg - 1) * V = E0 ∧ E2 < V := by
  have d1 : 1 ≤ dg := by
    rcases Nat.eq_zero_or_pos dg with h0 | h0
    · rw [h0] at e1; omega
    · exact h0
  obtain ⟨m, hm⟩ : ∃ m, dg = m + 1 := ⟨dg - 1, by omega⟩
  subst hm
  rw [Nat.add_mul, Nat.one_mul] at e1 hup
  rw [Nat.add_sub_cancel]
  have ho : o = 1 := by
    rcases Nat.lt_or_ge o 1 with h0 | h0
    · obtain rfl : o = 0 := by omega
      rw [Nat.mul_zero] at e2
      omega
    · rcases Nat.lt_or_ge o 2 with h2 | h2
      · omega
      · have : P * 2 ≤ P * o := Nat.mul_le_mul_left _ h2
        omega
  subst ho
  rw [Nat.mul_one] at e2
  refine ⟨d1, ?_, ?_⟩ <;> omega
/-- The digit was one too great: the divisor is put back. -/
theorem sb_back {D0 y D1 D2 : List Int} {j n : Nat} {dg : Int} (hn : y.length = n) (h : SbE D0 y j dg D1 true) (hb : AbE D1 y j D2) (hy : Lim y) (h1 : ∀ i, j + n < i → D0.getD i 0 = 0) (hup : dg.toNat * val y < val (D0.drop j) + val y) :
    1 ≤ dg.toNat ∧ val (D2.drop j) + (dg.toNat - 1) * val y = val (D0.drop j) ∧ val (D2.drop j) < val y := by
  subst hn
  have e1 := h.eq
  simp only [if_true] at e1
  obtain ⟨o, e2⟩ := hb.eq
  have f1 : val (D1.drop j) < 4294967296 ^ (y.length + 1) := lt_of_far (h.lim.drop j) (fun i hi => by rw [getD_drop, h.far _ (by omega)]; exact h1 _ (by omega))
  have f2 : val (D2.drop j) < 4294967296 ^ (y.length + 1) := lt_of_far (hb.lim.drop j) (fun i hi => by rw [getD_drop, hb.far _ (by omega), h.far _ (by omega)]; exact h1 _ (by omega))
  have f3 : val y < 4294967296 ^ (y.length + 1) := Nat.lt_of_lt_of_le (val_lt hy) (Nat.pow_le_pow_right (by decide) (by omega))
  exact back_core e1 e2 f1 f2 f3 hup
theorem DmS.done {X Y s N M : Nat} {D Q : List Int} (h : DmS (X * 2 ^ s) (Y * 2 ^ s) 0 N M D Q) : val Q = X / Y ∧ val D / 2 ^ s = X % Y := by
  have h1 := h.eq
  have h2 := h.lt
  simp only [Nat.pow_zero, Nat.mul_one] at h2
  have hp : 0 < 2 ^ s := Nat.two_pow_pos s
  have e1 : X * 2 ^ s = (val Q * Y) * 2 ^ s + val D := by rw [h1]; grind
  have hle : val Q * Y ≤ X := by
    rcases Nat.lt_or_ge X (val Q * Y) with h3 | h3
    · have := Nat.mul_lt_mul_of_pos_right h3 hp; omega
    · exact h3
  have e2 : val D = (X - val Q * Y) * 2 ^ s := by rw [Nat.sub_mul]; omega
  have e3 : X - val Q * Y < Y := by
    rw [e2] at h2
    exact Nat.lt_of_mul_lt_mul_right h2
  have e4 : X = Y * val Q + (X - val Q * Y) := by rw [Nat.mul_comm]; omega
  constructor
  · conv => rhs; rw [e4]
    rw [Nat.mul_add_div (by omega), Nat.div_eq_of_lt e3, Nat.add_zero]
  · rw [e2, Nat.mul_div_cancel _ hp]
    conv => rhs; rw [e4]
    rw [Nat.mul_add_mod, Nat.mod_eq_of_lt e3]
theorem top_core {B p2 p1 p0 q1 q0 W ur vr : Nat} (hvr : vr < W) (hp : ((p2 * B + p1) * B + p0) * W + ur < ((q1 * B + q0) * W + vr) * B) (hq : q0 < B) : p2 ≤ q1 := by
  rcases Nat.lt_or_ge q1 p2 with h | h
  · exfalso
    have x1 : (q1 * B + q0) * W + vr ≤ (q1 * B + q0 + 1) * W := by rw [Nat.add_mul _ 1, Nat.one_mul]; omega
    have x2 : q1 * B + q0 + 1 ≤ (q1 + 1) * B := by rw [Nat.add_mul, Nat.one_mul]; omega
    have x3 : (q1 + 1) * B ≤ p2 * B := Nat.mul_le_mul_right B h
    have x4 : (q1 * B + q0 + 1) * W ≤ p2 * B * W := Nat.mul_le_mul_right W (Nat.le_trans x2 x3)
    have x5 : ((q1 * B + q0) * W + vr) * B ≤ p2 * B * W * B := Nat.mul_le_mul_right B (Nat.le_trans x1 x4)
    have x6 : p2 * B * W * B = p2 * B * B * W := by grind
    have x7 : p2 * B * B ≤ (p2 * B + p1) * B + p0 := by rw [Nat.add_mul]; omega
    have x8 : p2 * B * B * W ≤ ((p2 * B + p1) * B + p0) * W := Nat.mul_le_mul_right W x7
    omega
  · exact h
/-- The part of the dividend of a round, by its highest limbs. -/
theorem part_top {D yv : List Int} {j c lx T : Nat} (hD : Lim D) (hy : Lim yv) (hyl : yv.length = c + 2) (hp : val (D.drop j) < T * 4294967296) (hT : val yv = T) (_hj : j + (c + 2) < lx + 1) :
    D.getD (j + (c + 2)) 0 ≤ yv.getD (c + 1) 0 ∧ (∀ i, j + (c + 2) < i → D.getD i 0 = 0) ∧
    (∃ ur, ur < 4294967296 ^ c ∧ val (D.drop j) = (((D.getD (j + (c + 2)) 0).toNat * 4294967296 + (D.getD (j + (c + 1)) 0).toNat) * 4294967296 + (D.getD (j + c) 0).toNat) * 4294967296 ^ c + ur) ∧
    (∃ vr, vr < 4294967296 ^ c ∧ val yv = ((yv.getD (c + 1) 0).toNat * 4294967296 + (yv.getD c 0).toNat) * 4294967296 ^ c + vr) := by
  subst hT
  have hV := val_lt hy
  rw [hyl] at hV
  have hb : val (D.drop j) < 4294967296 ^ (c + 2 + 1) := by
    rw [Nat.pow_succ]
    have h9 : val yv * 4294967296 < 4294967296 ^ (c + 2) * 4294967296 := Nat.mul_lt_mul_of_pos_right hV (by decide)
    exact Nat.lt_trans hp h9
  have hfarE : ∀ i, c + 2 + 1 ≤ i → (D.drop j).getD i 0 = 0 := far_zero (hD.drop j) hb
  obtain ⟨ur, hur, hu⟩ := val_three (hD.drop j) (n := c) (fun i hi => hfarE i (by omega))
  obtain ⟨vr, hvr, hv⟩ := val_two' hy hyl
  rw [getD_drop, getD_drop, getD_drop] at hu
  refine ⟨?_, fun i hi => ?_, ⟨ur, hur, hu⟩, ⟨vr, hvr, hv⟩⟩
  · have a2 := hD.get (j + (c + 2))
    have b1 := hy.get (c + 1)
    have b0 := hy.get c
    obtain ⟨W, hW⟩ : ∃ W, W = 4294967296 ^ c := ⟨_, rfl⟩
    rw [← hW] at hu hv hvr
    obtain ⟨p2, hp2⟩ : ∃ p2, p2 = (D.getD (j + (c + 2)) 0).toNat := ⟨_, rfl⟩
    obtain ⟨p1, hp1⟩ : ∃ p1, p1 = (D.getD (j + (c + 1)) 0).toNat := ⟨_, rfl⟩
    obtain ⟨p0, hp0⟩ : ∃ p0, p0 = (D.getD (j + c) 0).toNat := ⟨_, rfl⟩
    obtain ⟨q1, hq1⟩ : ∃ q1, q1 = (yv.getD (c + 1) 0).toNat := ⟨_, rfl⟩
    obtain ⟨q0, hq0⟩ : ∃ q0, q0 = (yv.getD c 0).toNat := ⟨_, rfl⟩
    rw [← hp2, ← hp1, ← hp0] at hu
    rw [← hq1, ← hq0] at hv
    rw [hu, hv] at hp
    have core := top_core hvr hp (by omega)
    omega
  · have := hfarE (i - j) (by omega)
    rw [getD_drop, show j + (i - j) = i by omega] at this
    exact this

end Go.Proofs.Ytkbgdiejjabdmaa
