/- The walk of the law RatioField. -/
import Derived.Test.YtkbgdiejjabdmaaLawB
import Derived.Test.YtkbgdiejjabdmaaRatL
import Derived.Test.YtkbgdiejjabdmaaAnyV
import Derived.Deep.Cut
import Derived.Deep.RegionHeld3
namespace Go.Proofs.Ytkbgdiejjabdmaa
open Go.RowKit

theorem cmpQ_rng (p q : Rat) : -1 ≤ cmpQ p q ∧ cmpQ p q ≤ 1 := by
  unfold cmpQ
  split
  · omega
  · split <;> omega
theorem sign_rng' (z : Int) : -1 ≤ z.sign ∧ z.sign ≤ 1 := by
  rcases Int.lt_trichotomy z 0 with h | h | h
  · rw [Int.sign_eq_neg_one_of_neg h]; omega
  · rw [h]; decide
  · rw [Int.sign_eq_one_of_pos h]; omega
theorem mul_rng {k s : Int} (hk : -1 ≤ k ∧ k ≤ 1) (hs : -1 ≤ s ∧ s ≤ 1) : -9223372036854775808 ≤ k * s ∧ k * s ≤ 9223372036854775807 := by
  have h1 : k = -1 ∨ k = 0 ∨ k = 1 := by omega
  have h2 : s = -1 ∨ s = 0 ∨ s = 1 := by omega
  rcases h1 with rfl | rfl | rfl <;> rcases h2 with rfl | rfl | rfl <;> decide

set_option maxRecDepth 100000 in
set_option maxHeartbeats 16000000 in
theorem ratiofield_law (W : World) {s0 : Bool} {A0 B0 : Option Addr} {l0 c0 m0 e0 n0 k0 : Nat} (hn0 : AN W (.slice A0 l0 c0) n0 l0) (hk0 : AN W (.slice B0 m0 e0) k0 m0) {s1 : Bool} {A1 B1 : Option Addr} {l1 c1 m1 e1 n1 k1 : Nat} (hn1 : AN W (.slice A1 l1 c1) n1 l1) (hk1 : AN W (.slice B1 m1 e1) k1 m1) {s2 : Bool} {A2 B2 : Option Addr} {l2 c2 m2 e2 n2 k2 : Nat} (hn2 : AN W (.slice A2 l2 c2) n2 l2) (hk2 : AN W (.slice B2 m2 e2) k2 m2) : Calls Try.prog 8 #[.agg #[.bool s0, .slice A0 l0 c0, .slice B0 m0 e0], .agg #[.bool s1, .slice A1 l1 c1, .slice B1 m1 e1], .agg #[.bool s2, .slice A2 l2 c2, .slice B2 m2 e2]] W (Is W (.bool true)) := by
  by_cases hlg0 : 40 < l0 ∨ 40 < m0
  · have HLG0 : Hid (∀ V : World, Calls Try.prog 17 #[.agg #[.bool s0, .slice A0 l0 c0, .slice B0 m0 e0]] V (Is V (.bool true))) := fun V => by
      have h := large_c V s0 A0 B0 l0 c0 m0 e0
      rw [show (decide (40 < l0) || decide (40 < m0)) = true by simpa using hlg0] at h
      exact h
    clear hn0 hk0 hn1 hk1 hn2 hk2 hlg0
    go_enter Try.func8, Try.ntmps8
    go_wp2_with fail
    obtain ⟨W0, hW⟩ : ∃ V, V = ((W.alloc (.cells #[.bool s0, .slice A0 l0 c0, .slice B0 m0 e0] 27)).alloc (.cells #[.bool s1, .slice A1 l1 c1, .slice B1 m1 e1] 27)).alloc (.cells #[.bool s2, .slice A2 l2 c2, .slice B2 m2 e2] 27) := ⟨_, rfl⟩
    obtain ⟨hg, b0, b1, b2⟩ := al3 W #[.bool s0, .slice A0 l0 c0, .slice B0 m0 e0] #[.bool s1, .slice A1 l1 c1, .slice B1 m1 e1] #[.bool s2, .slice A2 l2 c2, .slice B2 m2 e2] 27 27 27
    rw [← hW] at hg b0 b1 b2 ⊢
    clear hW
    have c00 : W0.cell? ⟨W.heap.size, 0, none⟩ = some (.bool s0) := b0.c 0 rfl
    have c01 : W0.cell? ⟨W.heap.size, 1, none⟩ = some (.slice A0 l0 c0) := b0.c 1 rfl
    have c02 : W0.cell? ⟨W.heap.size, 2, none⟩ = some (.slice B0 m0 e0) := b0.c 2 rfl
    have c10 : W0.cell? ⟨W.heap.size + 1, 0, none⟩ = some (.bool s1) := b1.c 0 rfl
    have c11 : W0.cell? ⟨W.heap.size + 1, 1, none⟩ = some (.slice A1 l1 c1) := b1.c 1 rfl
    have c12 : W0.cell? ⟨W.heap.size + 1, 2, none⟩ = some (.slice B1 m1 e1) := b1.c 2 rfl
    have c20 : W0.cell? ⟨W.heap.size + 2, 0, none⟩ = some (.bool s2) := b2.c 0 rfl
    have c21 : W0.cell? ⟨W.heap.size + 2, 1, none⟩ = some (.slice A2 l2 c2) := b2.c 1 rfl
    have c22 : W0.cell? ⟨W.heap.size + 2, 2, none⟩ = some (.slice B2 m2 e2) := b2.c 2 rfl
    have HG := hid hg
    clear hg b0 b1 b2
    refine (HLG0.out W0).mono ?_
    rintro e L0 ⟨rfl, hg⟩
    have HX := hid hg
    clear hg
    have HG := hid (HG.out.trans HX.out)
    clear HX
    go_wp2
    go_ret
    exact ⟨rfl, HG.out⟩
  by_cases hlg1 : 40 < l1 ∨ 40 < m1
  · have HLG0 : Hid (∀ V : World, Calls Try.prog 17 #[.agg #[.bool s0, .slice A0 l0 c0, .slice B0 m0 e0]] V (Is V (.bool false))) := fun V => by
      have h := large_c V s0 A0 B0 l0 c0 m0 e0
      rw [show (decide (40 < l0) || decide (40 < m0)) = false by simp; omega] at h
      exact h
    have HLG1 : Hid (∀ V : World, Calls Try.prog 17 #[.agg #[.bool s1, .slice A1 l1 c1, .slice B1 m1 e1]] V (Is V (.bool true))) := fun V => by
      have h := large_c V s1 A1 B1 l1 c1 m1 e1
      rw [show (decide (40 < l1) || decide (40 < m1)) = true by simpa using hlg1] at h
      exact h
    clear hn0 hk0 hn1 hk1 hn2 hk2 hlg0 hlg1
    go_enter Try.func8, Try.ntmps8
    go_wp2_with fail
    obtain ⟨W0, hW⟩ : ∃ V, V = ((W.alloc (.cells #[.bool s0, .slice A0 l0 c0, .slice B0 m0 e0] 27)).alloc (.cells #[.bool s1, .slice A1 l1 c1, .slice B1 m1 e1] 27)).alloc (.cells #[.bool s2, .slice A2 l2 c2, .slice B2 m2 e2] 27) := ⟨_, rfl⟩
    obtain ⟨hg, b0, b1, b2⟩ := al3 W #[.bool s0, .slice A0 l0 c0, .slice B0 m0 e0] #[.bool s1, .slice A1 l1 c1, .slice B1 m1 e1] #[.bool s2, .slice A2 l2 c2, .slice B2 m2 e2] 27 27 27
    rw [← hW] at hg b0 b1 b2 ⊢
    clear hW
    have c00 : W0.cell? ⟨W.heap.size, 0, none⟩ = some (.bool s0) := b0.c 0 rfl
    have c01 : W0.cell? ⟨W.heap.size, 1, none⟩ = some (.slice A0 l0 c0) := b0.c 1 rfl
    have c02 : W0.cell? ⟨W.heap.size, 2, none⟩ = some (.slice B0 m0 e0) := b0.c 2 rfl
    have c10 : W0.cell? ⟨W.heap.size + 1, 0, none⟩ = some (.bool s1) := b1.c 0 rfl
    have c11 : W0.cell? ⟨W.heap.size + 1, 1, none⟩ = some (.slice A1 l1 c1) := b1.c 1 rfl
    have c12 : W0.cell? ⟨W.heap.size + 1, 2, none⟩ = some (.slice B1 m1 e1) := b1.c 2 rfl
    have c20 : W0.cell? ⟨W.heap.size + 2, 0, none⟩ = some (.bool s2) := b2.c 0 rfl
    have c21 : W0.cell? ⟨W.heap.size + 2, 1, none⟩ = some (.slice A2 l2 c2) := b2.c 1 rfl
    have c22 : W0.cell? ⟨W.heap.size + 2, 2, none⟩ = some (.slice B2 m2 e2) := b2.c 2 rfl
    have HG := hid hg
    clear hg b0 b1 b2
    refine (HLG0.out W0).mono ?_
    rintro e L0 ⟨rfl, hg⟩
    have HX := hid hg
    clear hg
    have k1_c00 := Gr.cell HX.out c00
    have k1_c01 := Gr.cell HX.out c01
    have k1_c02 := Gr.cell HX.out c02
    have k1_c10 := Gr.cell HX.out c10
    have k1_c11 := Gr.cell HX.out c11
    have k1_c12 := Gr.cell HX.out c12
    have k1_c20 := Gr.cell HX.out c20
    have k1_c21 := Gr.cell HX.out c21
    have k1_c22 := Gr.cell HX.out c22
    have HG := hid (HG.out.trans HX.out)
    clear c00 c01 c02 c10 c11 c12 c20 c21 c22 HX
    go_wp2_with fail
    refine (HLG1.out L0).mono ?_
    rintro e L1 ⟨rfl, hg⟩
    have HX := hid hg
    clear hg
    have HG := hid (HG.out.trans HX.out)
    clear HX
    go_wp2
    go_ret
    exact ⟨rfl, HG.out⟩
  by_cases hlg2 : 40 < l2 ∨ 40 < m2
  · have HLG0 : Hid (∀ V : World, Calls Try.prog 17 #[.agg #[.bool s0, .slice A0 l0 c0, .slice B0 m0 e0]] V (Is V (.bool false))) := fun V => by
      have h := large_c V s0 A0 B0 l0 c0 m0 e0
      rw [show (decide (40 < l0) || decide (40 < m0)) = false by simp; omega] at h
      exact h
    have HLG1 : Hid (∀ V : World, Calls Try.prog 17 #[.agg #[.bool s1, .slice A1 l1 c1, .slice B1 m1 e1]] V (Is V (.bool false))) := fun V => by
      have h := large_c V s1 A1 B1 l1 c1 m1 e1
      rw [show (decide (40 < l1) || decide (40 < m1)) = false by simp; omega] at h
      exact h
    have HLG2 : Hid (∀ V : World, Calls Try.prog 17 #[.agg #[.bool s2, .slice A2 l2 c2, .slice B2 m2 e2]] V (Is V (.bool true))) := fun V => by
      have h := large_c V s2 A2 B2 l2 c2 m2 e2
      rw [show (decide (40 < l2) || decide (40 < m2)) = true by simpa using hlg2] at h
      exact h
    clear hn0 hk0 hn1 hk1 hn2 hk2 hlg0 hlg1 hlg2
    go_enter Try.func8, Try.ntmps8
    go_wp2_with fail
    obtain ⟨W0, hW⟩ : ∃ V, V = ((W.alloc (.cells #[.bool s0, .slice A0 l0 c0, .slice B0 m0 e0] 27)).alloc (.cells #[.bool s1, .slice A1 l1 c1, .slice B1 m1 e1] 27)).alloc (.cells #[.bool s2, .slice A2 l2 c2, .slice B2 m2 e2] 27) := ⟨_, rfl⟩
    obtain ⟨hg, b0, b1, b2⟩ := al3 W #[.bool s0, .slice A0 l0 c0, .slice B0 m0 e0] #[.bool s1, .slice A1 l1 c1, .slice B1 m1 e1] #[.bool s2, .slice A2 l2 c2, .slice B2 m2 e2] 27 27 27
    rw [← hW] at hg b0 b1 b2 ⊢
    clear hW
    have c00 : W0.cell? ⟨W.heap.size, 0, none⟩ = some (.bool s0) := b0.c 0 rfl
    have c01 : W0.cell? ⟨W.heap.size, 1, none⟩ = some (.slice A0 l0 c0) := b0.c 1 rfl
    have c02 : W0.cell? ⟨W.heap.size, 2, none⟩ = some (.slice B0 m0 e0) := b0.c 2 rfl
    have c10 : W0.cell? ⟨W.heap.size + 1, 0, none⟩ = some (.bool s1) := b1.c 0 rfl
    have c11 : W0.cell? ⟨W.heap.size + 1, 1, none⟩ = some (.slice A1 l1 c1) := b1.c 1 rfl
    have c12 : W0.cell? ⟨W.heap.size + 1, 2, none⟩ = some (.slice B1 m1 e1) := b1.c 2 rfl
    have c20 : W0.cell? ⟨W.heap.size + 2, 0, none⟩ = some (.bool s2) := b2.c 0 rfl
    have c21 : W0.cell? ⟨W.heap.size + 2, 1, none⟩ = some (.slice A2 l2 c2) := b2.c 1 rfl
    have c22 : W0.cell? ⟨W.heap.size + 2, 2, none⟩ = some (.slice B2 m2 e2) := b2.c 2 rfl
    have HG := hid hg
    clear hg b0 b1 b2
    refine (HLG0.out W0).mono ?_
    rintro e L0 ⟨rfl, hg⟩
    have HX := hid hg
    clear hg
    have k2_c00 := Gr.cell HX.out c00
    have k2_c01 := Gr.cell HX.out c01
    have k2_c02 := Gr.cell HX.out c02
    have k2_c10 := Gr.cell HX.out c10
    have k2_c11 := Gr.cell HX.out c11
    have k2_c12 := Gr.cell HX.out c12
    have k2_c20 := Gr.cell HX.out c20
    have k2_c21 := Gr.cell HX.out c21
    have k2_c22 := Gr.cell HX.out c22
    have HG := hid (HG.out.trans HX.out)
    clear c00 c01 c02 c10 c11 c12 c20 c21 c22 HX
    go_wp2_with fail
    refine (HLG1.out L0).mono ?_
    rintro e L1 ⟨rfl, hg⟩
    have HX := hid hg
    clear hg
    have k3_c00 := Gr.cell HX.out k2_c00
    have k3_c01 := Gr.cell HX.out k2_c01
    have k3_c02 := Gr.cell HX.out k2_c02
    have k3_c10 := Gr.cell HX.out k2_c10
    have k3_c11 := Gr.cell HX.out k2_c11
    have k3_c12 := Gr.cell HX.out k2_c12
    have k3_c20 := Gr.cell HX.out k2_c20
    have k3_c21 := Gr.cell HX.out k2_c21
    have k3_c22 := Gr.cell HX.out k2_c22
    have HG := hid (HG.out.trans HX.out)
    clear k2_c00 k2_c01 k2_c02 k2_c10 k2_c11 k2_c12 k2_c20 k2_c21 k2_c22 HX
    go_wp2_with fail
    refine (HLG2.out L1).mono ?_
    rintro e L2 ⟨rfl, hg⟩
    have HX := hid hg
    clear hg
    have HG := hid (HG.out.trans HX.out)
    clear HX
    go_wp2
    go_ret
    exact ⟨rfl, HG.out⟩
  have HLG0 : Hid (∀ V : World, Calls Try.prog 17 #[.agg #[.bool s0, .slice A0 l0 c0, .slice B0 m0 e0]] V (Is V (.bool false))) := fun V => by
    have h := large_c V s0 A0 B0 l0 c0 m0 e0
    rw [show (decide (40 < l0) || decide (40 < m0)) = false by simp; omega] at h
    exact h
  have HLG1 : Hid (∀ V : World, Calls Try.prog 17 #[.agg #[.bool s1, .slice A1 l1 c1, .slice B1 m1 e1]] V (Is V (.bool false))) := fun V => by
    have h := large_c V s1 A1 B1 l1 c1 m1 e1
    rw [show (decide (40 < l1) || decide (40 < m1)) = false by simp; omega] at h
    exact h
  have HLG2 : Hid (∀ V : World, Calls Try.prog 17 #[.agg #[.bool s2, .slice A2 l2 c2, .slice B2 m2 e2]] V (Is V (.bool false))) := fun V => by
    have h := large_c V s2 A2 B2 l2 c2 m2 e2
    rw [show (decide (40 < l2) || decide (40 < m2)) = false by simp; omega] at h
    exact h
  obtain ⟨p, hq0⟩ : ∃ q, q = mkRat (sgnd s0 n0) k0 := ⟨_, rfl⟩
  have HAp : Hid (AQ W (.agg #[.bool s0, .slice A0 l0 c0, .slice B0 m0 e0]) p 40) := ⟨s0, _, _, n0, k0, rfl, hn0.le (by omega), hk0.le (by omega), hq0⟩
  obtain ⟨q, hq1⟩ : ∃ q, q = mkRat (sgnd s1 n1) k1 := ⟨_, rfl⟩
  have HAq : Hid (AQ W (.agg #[.bool s1, .slice A1 l1 c1, .slice B1 m1 e1]) q 40) := ⟨s1, _, _, n1, k1, rfl, hn1.le (by omega), hk1.le (by omega), hq1⟩
  obtain ⟨r, hq2⟩ : ∃ q, q = mkRat (sgnd s2 n2) k2 := ⟨_, rfl⟩
  have HAr : Hid (AQ W (.agg #[.bool s2, .slice A2 l2 c2, .slice B2 m2 e2]) r 40) := ⟨s2, _, _, n2, k2, rfl, hn2.le (by omega), hk2.le (by omega), hq2⟩
  clear hlg0 hq0 hn0 hk0 n0 k0 hlg1 hq1 hn1 hk1 n1 k1 hlg2 hq2 hn2 hk2 n2 k2
  have HS1 : Hid (∀ (V : World) (b1 b2 : Nat) (u v : Value), VQ V b1 u (p + q) 81 → VQ V b2 v (q + p) 81 → Calls Try.prog 12 #[u, v] V (Is V (.bool true))) := fun V b1 b2 u v h1 h2 => by
    have h := same_c V b1 b2 u v _ _ 81 h1 h2 (by decide)
    rw [decide_eq_true (Rat.add_comm p q)] at h
    exact h
  have HS2 : Hid (∀ (V : World) (b1 b2 : Nat) (u v : Value), VQ V b1 u (p * q) 81 → VQ V b2 v (q * p) 81 → Calls Try.prog 12 #[u, v] V (Is V (.bool true))) := fun V b1 b2 u v h1 h2 => by
    have h := same_c V b1 b2 u v _ _ 81 h1 h2 (by decide)
    rw [decide_eq_true (Rat.mul_comm p q)] at h
    exact h
  have HS3 : Hid (∀ (V : World) (b1 b2 : Nat) (u v : Value), VQ V b1 u (p + q + r) 163 → VQ V b2 v (p + (q + r)) 163 → Calls Try.prog 12 #[u, v] V (Is V (.bool true))) := fun V b1 b2 u v h1 h2 => by
    have h := same_c V b1 b2 u v _ _ 163 h1 h2 (by decide)
    rw [decide_eq_true (Rat.add_assoc p q r)] at h
    exact h
  have HS4 : Hid (∀ (V : World) (b1 b2 : Nat) (u v : Value), VQ V b1 u (p * q * r) 163 → VQ V b2 v (p * (q * r)) 163 → Calls Try.prog 12 #[u, v] V (Is V (.bool true))) := fun V b1 b2 u v h1 h2 => by
    have h := same_c V b1 b2 u v _ _ 163 h1 h2 (by decide)
    rw [decide_eq_true (Rat.mul_assoc p q r)] at h
    exact h
  have HS5 : Hid (∀ (V : World) (b1 b2 : Nat) (u v : Value), VQ V b1 u (p * (q + r)) 163 → VQ V b2 v (p * q + p * r) 163 → Calls Try.prog 12 #[u, v] V (Is V (.bool true))) := fun V b1 b2 u v h1 h2 => by
    have h := same_c V b1 b2 u v _ _ 163 h1 h2 (by decide)
    rw [decide_eq_true (Rat.mul_add p q r)] at h
    exact h
  have HS6 : Hid (∀ (V : World) (b1 b2 : Nat) (u v : Value), VQ V b1 u (p * 1) 81 → VQ V b2 v (p) 81 → Calls Try.prog 12 #[u, v] V (Is V (.bool true))) := fun V b1 b2 u v h1 h2 => by
    have h := same_c V b1 b2 u v _ _ 81 h1 h2 (by decide)
    rw [decide_eq_true (Rat.mul_one p)] at h
    exact h
  have HS7 : Hid (∀ (V : World) (b1 b2 : Nat) (u v : Value), VQ V b1 u (p - q + q) 163 → VQ V b2 v (p) 163 → Calls Try.prog 12 #[u, v] V (Is V (.bool true))) := fun V b1 b2 u v h1 h2 => by
    have h := same_c V b1 b2 u v _ _ 163 h1 h2 (by decide)
    rw [decide_eq_true (Rat.sub_add_cancel)] at h
    exact h
  have HZ0 : Hid (∀ (V : World) (v : Value), AQ V v (p - p) 81 → Calls Try.prog 34 #[v] V (Is V (.int .i64 0))) := fun V v h1 => by
    have h := rsign_c V v (p - p) 81 h1 (by decide) (by decide)
    rw [Rat.sub_self] at h
    exact h
  have HOF : Hid (∀ V : World, Calls Try.prog 10 #[.int .i64 1, .int .i64 1] V (RetB V true fun v w' => VQ w' V.heap.size v 1 2)) := fun V => rof_c V 1 1 (by decide) (by decide) (by decide) (by decide)
  obtain ⟨sb, hsb⟩ : ∃ s, s = q.num.sign := ⟨_, rfl⟩
  obtain ⟨sc, hsc⟩ : ∃ s, s = r.num.sign := ⟨_, rfl⟩
  obtain ⟨k, hk⟩ : ∃ k, k = cmpQ p q := ⟨_, rfl⟩
  obtain ⟨k2, hk2⟩ : ∃ k, k = cmpQ q p := ⟨_, rfl⟩
  have hkk : k = -k2 := by rw [hk, hk2]; exact cmpQ_neg p q
  have hkr : -1 ≤ k ∧ k ≤ 1 := by rw [hk]; exact cmpQ_rng p q
  have hsr : -1 ≤ sc ∧ sc ≤ 1 := by rw [hsc]; exact sign_rng' _
  have hw1 : IntKind.i64.wrap (-k2) = k := by rw [← hkk]; exact IntWalk.i64_in _ (by omega)
  have hw2 : IntKind.i64.wrap (k * sc) = k * sc := IntWalk.i64_in _ (mul_rng hkr hsr)
  have HSB : Hid (∀ (V : World) (v : Value), AQ V v q 40 → Calls Try.prog 34 #[v] V (Is V (.int .i64 sb))) := fun V v h1 => by
    have h := rsign_c V v q 40 h1 (by decide) (by decide)
    rw [← hsb] at h
    exact h
  have HSC : Hid (∀ (V : World) (v : Value), AQ V v r 40 → Calls Try.prog 34 #[v] V (Is V (.int .i64 sc))) := fun V v h1 => by
    have h := rsign_c V v r 40 h1 (by decide) (by decide)
    rw [← hsc] at h
    exact h
  have HSD : Hid (∀ (V : World) (v : Value), AQ V v (p - q) 81 → Calls Try.prog 34 #[v] V (Is V (.int .i64 k))) := fun V v h1 => by
    have h := rsign_c V v (p - q) 81 h1 (by decide) (by decide)
    rw [← cmpQ_sign, ← hk] at h
    exact h
  have HCK : Hid (∀ (V : World) (u v : Value), AQ V u p 40 → AQ V v q 40 → Calls Try.prog 18 #[u, v] V (Is V (.int .i64 k))) := fun V u v h1 h2 => by
    have h := rcmp_c V u v p q 40 h1 h2 (by decide) (by decide)
    rw [← hk] at h
    exact h
  have HCK2 : Hid (∀ (V : World) (u v : Value), AQ V u q 40 → AQ V v p 40 → Calls Try.prog 18 #[u, v] V (Is V (.int .i64 k2))) := fun V u v h1 h2 => by
    have h := rcmp_c V u v q p 40 h1 h2 (by decide) (by decide)
    rw [← hk2] at h
    exact h
  have HCA : Hid (∀ (V : World) (u v : Value), AQ V u (p + r) 81 → AQ V v (q + r) 81 → Calls Try.prog 18 #[u, v] V (Is V (.int .i64 k))) := fun V u v h1 h2 => by
    have h := rcmp_c V u v _ _ 81 h1 h2 (by decide) (by decide)
    rw [cmpQ_add, ← hk] at h
    exact h
  have HCM : Hid (∀ (V : World) (u v : Value), AQ V u (p * r) 81 → AQ V v (q * r) 81 → Calls Try.prog 18 #[u, v] V (Is V (.int .i64 (k * sc)))) := fun V u v h1 h2 => by
    have h := rcmp_c V u v _ _ 81 h1 h2 (by decide) (by decide)
    rw [cmpQ_mul, ← hk, ← hsc] at h
    exact h
  have hok : decide (q ≠ 0) = (sb != 0) := by
    rw [hsb, Bool.eq_iff_iff, decide_eq_true_iff, bne_iff_ne, Ne, Ne, Int.sign_eq_zero_iff_zero, Rat.num_eq_zero]
  obtain ⟨ok, hok2⟩ : ∃ o, o = decide (q ≠ 0) := ⟨_, rfl⟩
  have HDV : Hid (∀ (V : World) (u v : Value), AQ V u p 40 → AQ V v q 40 → Calls Try.prog 26 #[u, v] V (RetB V ok fun v w' => VQ w' V.heap.size v (p / q) 80)) := fun V u v h1 h2 => by
    have h := rdiv_c V u v p q 40 h1 h2 (by decide) (by decide)
    rw [← hok2] at h
    exact h
  have HOKQ : Hid (ok = true → q ≠ 0) := fun h => by rw [hok2] at h; exact of_decide_eq_true h
  rw [← hok2] at hok
  have HOK := hid hok
  clear hok hok2 hk hk2 hsb hsc hkk hkr hsr
  go_enter Try.func8, Try.ntmps8
  go_wp2_with fail
  obtain ⟨W0, hW⟩ : ∃ V, V = ((W.alloc (.cells #[.bool s0, .slice A0 l0 c0, .slice B0 m0 e0] 27)).alloc (.cells #[.bool s1, .slice A1 l1 c1, .slice B1 m1 e1] 27)).alloc (.cells #[.bool s2, .slice A2 l2 c2, .slice B2 m2 e2] 27) := ⟨_, rfl⟩
  obtain ⟨hg, b0, b1, b2⟩ := al3 W #[.bool s0, .slice A0 l0 c0, .slice B0 m0 e0] #[.bool s1, .slice A1 l1 c1, .slice B1 m1 e1] #[.bool s2, .slice A2 l2 c2, .slice B2 m2 e2] 27 27 27
  rw [← hW] at hg b0 b1 b2 ⊢
  clear hW
  have c00 : W0.cell? ⟨W.heap.size, 0, none⟩ = some (.bool s0) := b0.c 0 rfl
  have c01 : W0.cell? ⟨W.heap.size, 1, none⟩ = some (.slice A0 l0 c0) := b0.c 1 rfl
  have c02 : W0.cell? ⟨W.heap.size, 2, none⟩ = some (.slice B0 m0 e0) := b0.c 2 rfl
  have c10 : W0.cell? ⟨W.heap.size + 1, 0, none⟩ = some (.bool s1) := b1.c 0 rfl
  have c11 : W0.cell? ⟨W.heap.size + 1, 1, none⟩ = some (.slice A1 l1 c1) := b1.c 1 rfl
  have c12 : W0.cell? ⟨W.heap.size + 1, 2, none⟩ = some (.slice B1 m1 e1) := b1.c 2 rfl
  have c20 : W0.cell? ⟨W.heap.size + 2, 0, none⟩ = some (.bool s2) := b2.c 0 rfl
  have c21 : W0.cell? ⟨W.heap.size + 2, 1, none⟩ = some (.slice A2 l2 c2) := b2.c 1 rfl
  have c22 : W0.cell? ⟨W.heap.size + 2, 2, none⟩ = some (.slice B2 m2 e2) := b2.c 2 rfl
  have HAp := hid (HAp.out.gr hg)
  have HAq := hid (HAq.out.gr hg)
  have HAr := hid (HAr.out.gr hg)
  have HG := hid hg
  clear hg b0 b1 b2
  refine (HLG0.out W0).mono ?_
  rintro e L0 ⟨rfl, hg⟩
  have HX := hid hg
  clear hg
  have k4_c00 := Gr.cell HX.out c00
  have k4_c01 := Gr.cell HX.out c01
  have k4_c02 := Gr.cell HX.out c02
  have k4_c10 := Gr.cell HX.out c10
  have k4_c11 := Gr.cell HX.out c11
  have k4_c12 := Gr.cell HX.out c12
  have k4_c20 := Gr.cell HX.out c20
  have k4_c21 := Gr.cell HX.out c21
  have k4_c22 := Gr.cell HX.out c22
  have HG := hid (HG.out.trans HX.out)
  have HAp := hid (HAp.out.gr HX.out)
  have HAq := hid (HAq.out.gr HX.out)
  have HAr := hid (HAr.out.gr HX.out)
  clear c00 c01 c02 c10 c11 c12 c20 c21 c22 HX
  go_wp2_with fail
  refine (HLG1.out L0).mono ?_
  rintro e L1 ⟨rfl, hg⟩
  have HX := hid hg
  clear hg
  have k5_c00 := Gr.cell HX.out k4_c00
  have k5_c01 := Gr.cell HX.out k4_c01
  have k5_c02 := Gr.cell HX.out k4_c02
  have k5_c10 := Gr.cell HX.out k4_c10
  have k5_c11 := Gr.cell HX.out k4_c11
  have k5_c12 := Gr.cell HX.out k4_c12
  have k5_c20 := Gr.cell HX.out k4_c20
  have k5_c21 := Gr.cell HX.out k4_c21
  have k5_c22 := Gr.cell HX.out k4_c22
  have HG := hid (HG.out.trans HX.out)
  have HAp := hid (HAp.out.gr HX.out)
  have HAq := hid (HAq.out.gr HX.out)
  have HAr := hid (HAr.out.gr HX.out)
  clear k4_c00 k4_c01 k4_c02 k4_c10 k4_c11 k4_c12 k4_c20 k4_c21 k4_c22 HX
  go_wp2_with fail
  refine (HLG2.out L1).mono ?_
  rintro e L2 ⟨rfl, hg⟩
  have HX := hid hg
  clear hg
  have k6_c00 := Gr.cell HX.out k5_c00
  have k6_c01 := Gr.cell HX.out k5_c01
  have k6_c02 := Gr.cell HX.out k5_c02
  have k6_c10 := Gr.cell HX.out k5_c10
  have k6_c11 := Gr.cell HX.out k5_c11
  have k6_c12 := Gr.cell HX.out k5_c12
  have k6_c20 := Gr.cell HX.out k5_c20
  have k6_c21 := Gr.cell HX.out k5_c21
  have k6_c22 := Gr.cell HX.out k5_c22
  have HG := hid (HG.out.trans HX.out)
  have HAp := hid (HAp.out.gr HX.out)
  have HAq := hid (HAq.out.gr HX.out)
  have HAr := hid (HAr.out.gr HX.out)
  clear k5_c00 k5_c01 k5_c02 k5_c10 k5_c11 k5_c12 k5_c20 k5_c21 k5_c22 HX
  go_wp2_with fail
  refine (HOF.out L2).mono ?_
  rintro e w4 ⟨v, rfl, h1, hg⟩
  have HX := hid hg
  clear hg
  obtain ⟨A9, l9, c9, B9, m9, e9, rfl, h1⟩ := h1.form
  obtain ⟨s9, hs9⟩ : ∃ b, b = decide ((1 : Rat).num < 0) := ⟨_, rfl⟩
  rw [← hs9] at h1 ⊢
  have HAone := hid h1
  clear h1 hs9
  have k7_c00 := Gr.cell HX.out k6_c00
  have k7_c01 := Gr.cell HX.out k6_c01
  have k7_c02 := Gr.cell HX.out k6_c02
  have k7_c10 := Gr.cell HX.out k6_c10
  have k7_c11 := Gr.cell HX.out k6_c11
  have k7_c12 := Gr.cell HX.out k6_c12
  have k7_c20 := Gr.cell HX.out k6_c20
  have k7_c21 := Gr.cell HX.out k6_c21
  have k7_c22 := Gr.cell HX.out k6_c22
  have HG := hid (HG.out.trans HX.out)
  have HAp := hid (HAp.out.gr HX.out)
  have HAq := hid (HAq.out.gr HX.out)
  have HAr := hid (HAr.out.gr HX.out)
  clear k6_c00 k6_c01 k6_c02 k6_c10 k6_c11 k6_c12 k6_c20 k6_c21 k6_c22 HX
  go_upto_region 4 with (fail)
  obtain ⟨W3, hW⟩ : ∃ V, V = w4.alloc (.cells #[.bool s9, .slice A9 l9 c9, .slice B9 m9 e9] 27) := ⟨_, rfl⟩
  obtain ⟨hg, b1⟩ := al1 w4 #[.bool s9, .slice A9 l9 c9, .slice B9 m9 e9] 27
  rw [← hW] at hg b1 ⊢
  clear hW
  have HX := hid hg
  clear hg
  have HAone := hid (HAone.out)
  have k8_c00 := Gr.cell HX.out k7_c00
  have k8_c01 := Gr.cell HX.out k7_c01
  have k8_c02 := Gr.cell HX.out k7_c02
  have k8_c10 := Gr.cell HX.out k7_c10
  have k8_c11 := Gr.cell HX.out k7_c11
  have k8_c12 := Gr.cell HX.out k7_c12
  have k8_c20 := Gr.cell HX.out k7_c20
  have k8_c21 := Gr.cell HX.out k7_c21
  have k8_c22 := Gr.cell HX.out k7_c22
  have HG := hid (HG.out.trans HX.out)
  have HAp := hid (HAp.out.gr HX.out)
  have HAq := hid (HAq.out.gr HX.out)
  have HAr := hid (HAr.out.gr HX.out)
  have HAone := hid (HAone.out.gr HX.out)
  clear k7_c00 k7_c01 k7_c02 k7_c10 k7_c11 k7_c12 k7_c20 k7_c21 k7_c22 HX
  have n9_c90 : W3.cell? ⟨w4.heap.size, 0, none⟩ = some (.bool s9) := b1.c 0 rfl
  have n9_c91 : W3.cell? ⟨w4.heap.size, 1, none⟩ = some (.slice A9 l9 c9) := b1.c 1 rfl
  have n9_c92 : W3.cell? ⟨w4.heap.size, 2, none⟩ = some (.slice B9 m9 e9) := b1.c 2 rfl
  clear b1
  go_region_held3 (fun V => V.cell? ⟨W.heap.size, 0, none⟩ = some (.bool s0) ∧ V.cell? ⟨W.heap.size, 1, none⟩ = some (.slice A0 l0 c0) ∧ V.cell? ⟨W.heap.size, 2, none⟩ = some (.slice B0 m0 e0) ∧ V.cell? ⟨W.heap.size + 1, 0, none⟩ = some (.bool s1) ∧ V.cell? ⟨W.heap.size + 1, 1, none⟩ = some (.slice A1 l1 c1) ∧ V.cell? ⟨W.heap.size + 1, 2, none⟩ = some (.slice B1 m1 e1) ∧ V.cell? ⟨W.heap.size + 2, 0, none⟩ = some (.bool s2) ∧ V.cell? ⟨W.heap.size + 2, 1, none⟩ = some (.slice A2 l2 c2) ∧ V.cell? ⟨W.heap.size + 2, 2, none⟩ = some (.slice B2 m2 e2) ∧ V.cell? ⟨w4.heap.size, 0, none⟩ = some (.bool s9) ∧ V.cell? ⟨w4.heap.size, 1, none⟩ = some (.slice A9 l9 c9) ∧ V.cell? ⟨w4.heap.size, 2, none⟩ = some (.slice B9 m9 e9))
    (first
      | exact ⟨k8_c00, k8_c01, k8_c02, k8_c10, k8_c11, k8_c12, k8_c20, k8_c21, k8_c22, n9_c90, n9_c91, n9_c92⟩
      | with_reducible exact ⟨Gr.cell HX1.out k8_c00, Gr.cell HX1.out k8_c01, Gr.cell HX1.out k8_c02, Gr.cell HX1.out k8_c10, Gr.cell HX1.out k8_c11, Gr.cell HX1.out k8_c12, Gr.cell HX1.out k8_c20, Gr.cell HX1.out k8_c21, Gr.cell HX1.out k8_c22, Gr.cell HX1.out n9_c90, Gr.cell HX1.out n9_c91, Gr.cell HX1.out n9_c92⟩
      | with_reducible exact ⟨Gr.cell HX2.out k8_c00, Gr.cell HX2.out k8_c01, Gr.cell HX2.out k8_c02, Gr.cell HX2.out k8_c10, Gr.cell HX2.out k8_c11, Gr.cell HX2.out k8_c12, Gr.cell HX2.out k8_c20, Gr.cell HX2.out k8_c21, Gr.cell HX2.out k8_c22, Gr.cell HX2.out n9_c90, Gr.cell HX2.out n9_c91, Gr.cell HX2.out n9_c92⟩
      | with_reducible exact ⟨Gr.cell HX3.out k8_c00, Gr.cell HX3.out k8_c01, Gr.cell HX3.out k8_c02, Gr.cell HX3.out k8_c10, Gr.cell HX3.out k8_c11, Gr.cell HX3.out k8_c12, Gr.cell HX3.out k8_c20, Gr.cell HX3.out k8_c21, Gr.cell HX3.out k8_c22, Gr.cell HX3.out n9_c90, Gr.cell HX3.out n9_c91, Gr.cell HX3.out n9_c92⟩
      | with_reducible exact ⟨Gr.cell HX4.out k8_c00, Gr.cell HX4.out k8_c01, Gr.cell HX4.out k8_c02, Gr.cell HX4.out k8_c10, Gr.cell HX4.out k8_c11, Gr.cell HX4.out k8_c12, Gr.cell HX4.out k8_c20, Gr.cell HX4.out k8_c21, Gr.cell HX4.out k8_c22, Gr.cell HX4.out n9_c90, Gr.cell HX4.out n9_c91, Gr.cell HX4.out n9_c92⟩
      | with_reducible exact ⟨Gr.cell HX5.out k8_c00, Gr.cell HX5.out k8_c01, Gr.cell HX5.out k8_c02, Gr.cell HX5.out k8_c10, Gr.cell HX5.out k8_c11, Gr.cell HX5.out k8_c12, Gr.cell HX5.out k8_c20, Gr.cell HX5.out k8_c21, Gr.cell HX5.out k8_c22, Gr.cell HX5.out n9_c90, Gr.cell HX5.out n9_c91, Gr.cell HX5.out n9_c92⟩
      | with_reducible exact ⟨Gr.cell HX6.out k8_c00, Gr.cell HX6.out k8_c01, Gr.cell HX6.out k8_c02, Gr.cell HX6.out k8_c10, Gr.cell HX6.out k8_c11, Gr.cell HX6.out k8_c12, Gr.cell HX6.out k8_c20, Gr.cell HX6.out k8_c21, Gr.cell HX6.out k8_c22, Gr.cell HX6.out n9_c90, Gr.cell HX6.out n9_c91, Gr.cell HX6.out n9_c92⟩
      | with_reducible exact ⟨Gr.cell HX7.out k8_c00, Gr.cell HX7.out k8_c01, Gr.cell HX7.out k8_c02, Gr.cell HX7.out k8_c10, Gr.cell HX7.out k8_c11, Gr.cell HX7.out k8_c12, Gr.cell HX7.out k8_c20, Gr.cell HX7.out k8_c21, Gr.cell HX7.out k8_c22, Gr.cell HX7.out n9_c90, Gr.cell HX7.out n9_c91, Gr.cell HX7.out n9_c92⟩)
    (first
      | (go_at_call 12; refine (HS2.out x6 _ _ _ _ (HV5_6.out.le (by decide)) (HV6_6.out.le (by decide))).mono ?_; rintro e w5 ⟨rfl, hg⟩; have HX7 := hid (HX6.out.trans hg); clear hg)
      | (go_at_call 24; refine (rmul_c x5 _ _ q p 40 ((HAq.out.gr HX5.out).le (by decide)) ((HAp.out.gr HX5.out).le (by decide)) (by decide) (by decide)).mono ?_; rintro e x6 ⟨g6, rfl, hv, hg⟩; have HX6 := hid (HX5.out.trans hg); have HV6_6 := hid hv; have HV5_6 := hid (HV5_5.out.gr hg); clear hv hg)
      | (go_at_call 24; refine (rmul_c x4 _ _ p q 40 ((HAp.out.gr HX4.out).le (by decide)) ((HAq.out.gr HX4.out).le (by decide)) (by decide) (by decide)).mono ?_; rintro e x5 ⟨g5, rfl, hv, hg⟩; have HX5 := hid (HX4.out.trans hg); have HV5_5 := hid hv; clear hv hg)
      | (go_at_call 12; refine (HS1.out x3 _ _ _ _ (HV2_3.out.le (by decide)) (HV3_3.out.le (by decide))).mono ?_; rintro e x4 ⟨rfl, hg⟩; have HX4 := hid (HX3.out.trans hg); clear hg)
      | (go_at_call 20; refine (radd_c x2 _ _ q p 40 ((HAq.out.gr HX2.out).le (by decide)) ((HAp.out.gr HX2.out).le (by decide)) (by decide) (by decide)).mono ?_; rintro e x3 ⟨g3, rfl, hv, hg⟩; have HX3 := hid (HX2.out.trans hg); have HV3_3 := hid hv; have HV2_3 := hid (HV2_2.out.gr hg); clear hv hg)
      | (go_at_call 20; refine (radd_c x1 _ _ p q 40 ((HAp.out.gr HX1.out).le (by decide)) ((HAq.out.gr HX1.out).le (by decide)) (by decide) (by decide)).mono ?_; rintro e x2 ⟨g2, rfl, hv, hg⟩; have HX2 := hid (HX1.out.trans hg); have HV2_2 := hid hv; clear hv hg)
      | (go_at_call 32; refine (normal_c _ _ _ 1 2 ((HAone.out.gr ((Gr.refl W3).drew)).le (by decide)) (by decide)).mono ?_; rintro e x1 ⟨rfl, hg⟩; have HX1 := hid (((Gr.refl W3).drew).trans hg); clear hg))
  have k9_c00 := Gr.cell HX7.out k8_c00
  have k9_c01 := Gr.cell HX7.out k8_c01
  have k9_c02 := Gr.cell HX7.out k8_c02
  have k9_c10 := Gr.cell HX7.out k8_c10
  have k9_c11 := Gr.cell HX7.out k8_c11
  have k9_c12 := Gr.cell HX7.out k8_c12
  have k9_c20 := Gr.cell HX7.out k8_c20
  have k9_c21 := Gr.cell HX7.out k8_c21
  have k9_c22 := Gr.cell HX7.out k8_c22
  have k9_c90 := Gr.cell HX7.out n9_c90
  have k9_c91 := Gr.cell HX7.out n9_c91
  have k9_c92 := Gr.cell HX7.out n9_c92
  have HG := hid (HG.out.trans HX7.out)
  have HAp := hid (HAp.out.gr HX7.out)
  have HAq := hid (HAq.out.gr HX7.out)
  have HAr := hid (HAr.out.gr HX7.out)
  have HAone := hid (HAone.out.gr HX7.out)
  clear k8_c00 k8_c01 k8_c02 k8_c10 k8_c11 k8_c12 k8_c20 k8_c21 k8_c22 n9_c90 n9_c91 n9_c92 HX1 HX2 HX3 HX4 HX5 HX6 HX7
  go_wp2
  go_region_held3 (fun V => V.cell? ⟨W.heap.size, 0, none⟩ = some (.bool s0) ∧ V.cell? ⟨W.heap.size, 1, none⟩ = some (.slice A0 l0 c0) ∧ V.cell? ⟨W.heap.size, 2, none⟩ = some (.slice B0 m0 e0) ∧ V.cell? ⟨W.heap.size + 1, 0, none⟩ = some (.bool s1) ∧ V.cell? ⟨W.heap.size + 1, 1, none⟩ = some (.slice A1 l1 c1) ∧ V.cell? ⟨W.heap.size + 1, 2, none⟩ = some (.slice B1 m1 e1) ∧ V.cell? ⟨W.heap.size + 2, 0, none⟩ = some (.bool s2) ∧ V.cell? ⟨W.heap.size + 2, 1, none⟩ = some (.slice A2 l2 c2) ∧ V.cell? ⟨W.heap.size + 2, 2, none⟩ = some (.slice B2 m2 e2) ∧ V.cell? ⟨w4.heap.size, 0, none⟩ = some (.bool s9) ∧ V.cell? ⟨w4.heap.size, 1, none⟩ = some (.slice A9 l9 c9) ∧ V.cell? ⟨w4.heap.size, 2, none⟩ = some (.slice B9 m9 e9))
    (first
      | exact ⟨k9_c00, k9_c01, k9_c02, k9_c10, k9_c11, k9_c12, k9_c20, k9_c21, k9_c22, k9_c90, k9_c91, k9_c92⟩
      | with_reducible exact ⟨Gr.cell HX1.out k9_c00, Gr.cell HX1.out k9_c01, Gr.cell HX1.out k9_c02, Gr.cell HX1.out k9_c10, Gr.cell HX1.out k9_c11, Gr.cell HX1.out k9_c12, Gr.cell HX1.out k9_c20, Gr.cell HX1.out k9_c21, Gr.cell HX1.out k9_c22, Gr.cell HX1.out k9_c90, Gr.cell HX1.out k9_c91, Gr.cell HX1.out k9_c92⟩
      | with_reducible exact ⟨Gr.cell HX2.out k9_c00, Gr.cell HX2.out k9_c01, Gr.cell HX2.out k9_c02, Gr.cell HX2.out k9_c10, Gr.cell HX2.out k9_c11, Gr.cell HX2.out k9_c12, Gr.cell HX2.out k9_c20, Gr.cell HX2.out k9_c21, Gr.cell HX2.out k9_c22, Gr.cell HX2.out k9_c90, Gr.cell HX2.out k9_c91, Gr.cell HX2.out k9_c92⟩
      | with_reducible exact ⟨Gr.cell HX3.out k9_c00, Gr.cell HX3.out k9_c01, Gr.cell HX3.out k9_c02, Gr.cell HX3.out k9_c10, Gr.cell HX3.out k9_c11, Gr.cell HX3.out k9_c12, Gr.cell HX3.out k9_c20, Gr.cell HX3.out k9_c21, Gr.cell HX3.out k9_c22, Gr.cell HX3.out k9_c90, Gr.cell HX3.out k9_c91, Gr.cell HX3.out k9_c92⟩
      | with_reducible exact ⟨Gr.cell HX4.out k9_c00, Gr.cell HX4.out k9_c01, Gr.cell HX4.out k9_c02, Gr.cell HX4.out k9_c10, Gr.cell HX4.out k9_c11, Gr.cell HX4.out k9_c12, Gr.cell HX4.out k9_c20, Gr.cell HX4.out k9_c21, Gr.cell HX4.out k9_c22, Gr.cell HX4.out k9_c90, Gr.cell HX4.out k9_c91, Gr.cell HX4.out k9_c92⟩
      | with_reducible exact ⟨Gr.cell HX5.out k9_c00, Gr.cell HX5.out k9_c01, Gr.cell HX5.out k9_c02, Gr.cell HX5.out k9_c10, Gr.cell HX5.out k9_c11, Gr.cell HX5.out k9_c12, Gr.cell HX5.out k9_c20, Gr.cell HX5.out k9_c21, Gr.cell HX5.out k9_c22, Gr.cell HX5.out k9_c90, Gr.cell HX5.out k9_c91, Gr.cell HX5.out k9_c92⟩
      | with_reducible exact ⟨Gr.cell HX6.out k9_c00, Gr.cell HX6.out k9_c01, Gr.cell HX6.out k9_c02, Gr.cell HX6.out k9_c10, Gr.cell HX6.out k9_c11, Gr.cell HX6.out k9_c12, Gr.cell HX6.out k9_c20, Gr.cell HX6.out k9_c21, Gr.cell HX6.out k9_c22, Gr.cell HX6.out k9_c90, Gr.cell HX6.out k9_c91, Gr.cell HX6.out k9_c92⟩
      | with_reducible exact ⟨Gr.cell HX7.out k9_c00, Gr.cell HX7.out k9_c01, Gr.cell HX7.out k9_c02, Gr.cell HX7.out k9_c10, Gr.cell HX7.out k9_c11, Gr.cell HX7.out k9_c12, Gr.cell HX7.out k9_c20, Gr.cell HX7.out k9_c21, Gr.cell HX7.out k9_c22, Gr.cell HX7.out k9_c90, Gr.cell HX7.out k9_c91, Gr.cell HX7.out k9_c92⟩
      | with_reducible exact ⟨Gr.cell HX8.out k9_c00, Gr.cell HX8.out k9_c01, Gr.cell HX8.out k9_c02, Gr.cell HX8.out k9_c10, Gr.cell HX8.out k9_c11, Gr.cell HX8.out k9_c12, Gr.cell HX8.out k9_c20, Gr.cell HX8.out k9_c21, Gr.cell HX8.out k9_c22, Gr.cell HX8.out k9_c90, Gr.cell HX8.out k9_c91, Gr.cell HX8.out k9_c92⟩
      | with_reducible exact ⟨Gr.cell HX9.out k9_c00, Gr.cell HX9.out k9_c01, Gr.cell HX9.out k9_c02, Gr.cell HX9.out k9_c10, Gr.cell HX9.out k9_c11, Gr.cell HX9.out k9_c12, Gr.cell HX9.out k9_c20, Gr.cell HX9.out k9_c21, Gr.cell HX9.out k9_c22, Gr.cell HX9.out k9_c90, Gr.cell HX9.out k9_c91, Gr.cell HX9.out k9_c92⟩
      | with_reducible exact ⟨Gr.cell HX10.out k9_c00, Gr.cell HX10.out k9_c01, Gr.cell HX10.out k9_c02, Gr.cell HX10.out k9_c10, Gr.cell HX10.out k9_c11, Gr.cell HX10.out k9_c12, Gr.cell HX10.out k9_c20, Gr.cell HX10.out k9_c21, Gr.cell HX10.out k9_c22, Gr.cell HX10.out k9_c90, Gr.cell HX10.out k9_c91, Gr.cell HX10.out k9_c92⟩)
    (first
      | (go_at_call 12; refine (HS4.out x9 _ _ _ _ (HV7_9.out.le (by decide)) (HV9_9.out.le (by decide))).mono ?_; rintro e w6 ⟨rfl, hg⟩; have HX10 := hid (HX9.out.trans hg); clear hg)
      | (go_at_call 24; refine (rmul_c x8 _ _ p (q * r) 81 ((HAp.out.gr HX8.out).le (by decide)) (HV8_8.out.aq.le (by decide)) (by decide) (by decide)).mono ?_; rintro e x9 ⟨g9, rfl, hv, hg⟩; have HX9 := hid (HX8.out.trans hg); have HV9_9 := hid hv; have HV7_9 := hid (HV7_8.out.gr hg); clear hv hg)
      | (go_at_call 24; refine (rmul_c x7 _ _ q r 40 ((HAq.out.gr HX7.out).le (by decide)) ((HAr.out.gr HX7.out).le (by decide)) (by decide) (by decide)).mono ?_; rintro e x8 ⟨g8, rfl, hv, hg⟩; have HX8 := hid (HX7.out.trans hg); have HV8_8 := hid hv; have HV7_8 := hid (HV7_7.out.gr hg); clear hv hg)
      | (go_at_call 24; refine (rmul_c x6 _ _ (p * q) r 81 (HV6_6.out.aq.le (by decide)) ((HAr.out.gr HX6.out).le (by decide)) (by decide) (by decide)).mono ?_; rintro e x7 ⟨g7, rfl, hv, hg⟩; have HX7 := hid (HX6.out.trans hg); have HV7_7 := hid hv; clear hv hg)
      | (go_at_call 24; refine (rmul_c x5 _ _ p q 40 ((HAp.out.gr HX5.out).le (by decide)) ((HAq.out.gr HX5.out).le (by decide)) (by decide) (by decide)).mono ?_; rintro e x6 ⟨g6, rfl, hv, hg⟩; have HX6 := hid (HX5.out.trans hg); have HV6_6 := hid hv; clear hv hg)
      | (go_at_call 12; refine (HS3.out x4 _ _ _ _ (HV2_4.out.le (by decide)) (HV4_4.out.le (by decide))).mono ?_; rintro e x5 ⟨rfl, hg⟩; have HX5 := hid (HX4.out.trans hg); clear hg)
      | (go_at_call 20; refine (radd_c x3 _ _ p (q + r) 81 ((HAp.out.gr HX3.out).le (by decide)) (HV3_3.out.aq.le (by decide)) (by decide) (by decide)).mono ?_; rintro e x4 ⟨g4, rfl, hv, hg⟩; have HX4 := hid (HX3.out.trans hg); have HV4_4 := hid hv; have HV2_4 := hid (HV2_3.out.gr hg); clear hv hg)
      | (go_at_call 20; refine (radd_c x2 _ _ q r 40 ((HAq.out.gr HX2.out).le (by decide)) ((HAr.out.gr HX2.out).le (by decide)) (by decide) (by decide)).mono ?_; rintro e x3 ⟨g3, rfl, hv, hg⟩; have HX3 := hid (HX2.out.trans hg); have HV3_3 := hid hv; have HV2_3 := hid (HV2_2.out.gr hg); clear hv hg)
      | (go_at_call 20; refine (radd_c x1 _ _ (p + q) r 81 (HV1_1.out.aq.le (by decide)) ((HAr.out.gr HX1.out).le (by decide)) (by decide) (by decide)).mono ?_; rintro e x2 ⟨g2, rfl, hv, hg⟩; have HX2 := hid (HX1.out.trans hg); have HV2_2 := hid hv; clear hv hg)
      | (go_at_call 20; refine (radd_c _ _ _ p q 40 ((HAp.out.gr ((Gr.refl w5).drew)).le (by decide)) ((HAq.out.gr ((Gr.refl w5).drew)).le (by decide)) (by decide) (by decide)).mono ?_; rintro e x1 ⟨g1, rfl, hv, hg⟩; have HX1 := hid (((Gr.refl w5).drew).trans hg); have HV1_1 := hid hv; clear hv hg))
  have k10_c00 := Gr.cell HX10.out k9_c00
  have k10_c01 := Gr.cell HX10.out k9_c01
  have k10_c02 := Gr.cell HX10.out k9_c02
  have k10_c10 := Gr.cell HX10.out k9_c10
  have k10_c11 := Gr.cell HX10.out k9_c11
  have k10_c12 := Gr.cell HX10.out k9_c12
  have k10_c20 := Gr.cell HX10.out k9_c20
  have k10_c21 := Gr.cell HX10.out k9_c21
  have k10_c22 := Gr.cell HX10.out k9_c22
  have k10_c90 := Gr.cell HX10.out k9_c90
  have k10_c91 := Gr.cell HX10.out k9_c91
  have k10_c92 := Gr.cell HX10.out k9_c92
  have HG := hid (HG.out.trans HX10.out)
  have HAp := hid (HAp.out.gr HX10.out)
  have HAq := hid (HAq.out.gr HX10.out)
  have HAr := hid (HAr.out.gr HX10.out)
  have HAone := hid (HAone.out.gr HX10.out)
  clear k9_c00 k9_c01 k9_c02 k9_c10 k9_c11 k9_c12 k9_c20 k9_c21 k9_c22 k9_c90 k9_c91 k9_c92 HX1 HX2 HX3 HX4 HX5 HX6 HX7 HX8 HX9 HX10
  go_wp2
  go_region_held3 (fun V => V.cell? ⟨W.heap.size, 0, none⟩ = some (.bool s0) ∧ V.cell? ⟨W.heap.size, 1, none⟩ = some (.slice A0 l0 c0) ∧ V.cell? ⟨W.heap.size, 2, none⟩ = some (.slice B0 m0 e0) ∧ V.cell? ⟨W.heap.size + 1, 0, none⟩ = some (.bool s1) ∧ V.cell? ⟨W.heap.size + 1, 1, none⟩ = some (.slice A1 l1 c1) ∧ V.cell? ⟨W.heap.size + 1, 2, none⟩ = some (.slice B1 m1 e1) ∧ V.cell? ⟨W.heap.size + 2, 0, none⟩ = some (.bool s2) ∧ V.cell? ⟨W.heap.size + 2, 1, none⟩ = some (.slice A2 l2 c2) ∧ V.cell? ⟨W.heap.size + 2, 2, none⟩ = some (.slice B2 m2 e2) ∧ V.cell? ⟨w4.heap.size, 0, none⟩ = some (.bool s9) ∧ V.cell? ⟨w4.heap.size, 1, none⟩ = some (.slice A9 l9 c9) ∧ V.cell? ⟨w4.heap.size, 2, none⟩ = some (.slice B9 m9 e9))
    (first
      | exact ⟨k10_c00, k10_c01, k10_c02, k10_c10, k10_c11, k10_c12, k10_c20, k10_c21, k10_c22, k10_c90, k10_c91, k10_c92⟩
      | with_reducible exact ⟨Gr.cell HX1.out k10_c00, Gr.cell HX1.out k10_c01, Gr.cell HX1.out k10_c02, Gr.cell HX1.out k10_c10, Gr.cell HX1.out k10_c11, Gr.cell HX1.out k10_c12, Gr.cell HX1.out k10_c20, Gr.cell HX1.out k10_c21, Gr.cell HX1.out k10_c22, Gr.cell HX1.out k10_c90, Gr.cell HX1.out k10_c91, Gr.cell HX1.out k10_c92⟩
      | with_reducible exact ⟨Gr.cell HX2.out k10_c00, Gr.cell HX2.out k10_c01, Gr.cell HX2.out k10_c02, Gr.cell HX2.out k10_c10, Gr.cell HX2.out k10_c11, Gr.cell HX2.out k10_c12, Gr.cell HX2.out k10_c20, Gr.cell HX2.out k10_c21, Gr.cell HX2.out k10_c22, Gr.cell HX2.out k10_c90, Gr.cell HX2.out k10_c91, Gr.cell HX2.out k10_c92⟩
      | with_reducible exact ⟨Gr.cell HX3.out k10_c00, Gr.cell HX3.out k10_c01, Gr.cell HX3.out k10_c02, Gr.cell HX3.out k10_c10, Gr.cell HX3.out k10_c11, Gr.cell HX3.out k10_c12, Gr.cell HX3.out k10_c20, Gr.cell HX3.out k10_c21, Gr.cell HX3.out k10_c22, Gr.cell HX3.out k10_c90, Gr.cell HX3.out k10_c91, Gr.cell HX3.out k10_c92⟩
      | with_reducible exact ⟨Gr.cell HX4.out k10_c00, Gr.cell HX4.out k10_c01, Gr.cell HX4.out k10_c02, Gr.cell HX4.out k10_c10, Gr.cell HX4.out k10_c11, Gr.cell HX4.out k10_c12, Gr.cell HX4.out k10_c20, Gr.cell HX4.out k10_c21, Gr.cell HX4.out k10_c22, Gr.cell HX4.out k10_c90, Gr.cell HX4.out k10_c91, Gr.cell HX4.out k10_c92⟩
      | with_reducible exact ⟨Gr.cell HX5.out k10_c00, Gr.cell HX5.out k10_c01, Gr.cell HX5.out k10_c02, Gr.cell HX5.out k10_c10, Gr.cell HX5.out k10_c11, Gr.cell HX5.out k10_c12, Gr.cell HX5.out k10_c20, Gr.cell HX5.out k10_c21, Gr.cell HX5.out k10_c22, Gr.cell HX5.out k10_c90, Gr.cell HX5.out k10_c91, Gr.cell HX5.out k10_c92⟩
      | with_reducible exact ⟨Gr.cell HX6.out k10_c00, Gr.cell HX6.out k10_c01, Gr.cell HX6.out k10_c02, Gr.cell HX6.out k10_c10, Gr.cell HX6.out k10_c11, Gr.cell HX6.out k10_c12, Gr.cell HX6.out k10_c20, Gr.cell HX6.out k10_c21, Gr.cell HX6.out k10_c22, Gr.cell HX6.out k10_c90, Gr.cell HX6.out k10_c91, Gr.cell HX6.out k10_c92⟩
      | with_reducible exact ⟨Gr.cell HX7.out k10_c00, Gr.cell HX7.out k10_c01, Gr.cell HX7.out k10_c02, Gr.cell HX7.out k10_c10, Gr.cell HX7.out k10_c11, Gr.cell HX7.out k10_c12, Gr.cell HX7.out k10_c20, Gr.cell HX7.out k10_c21, Gr.cell HX7.out k10_c22, Gr.cell HX7.out k10_c90, Gr.cell HX7.out k10_c91, Gr.cell HX7.out k10_c92⟩
      | with_reducible exact ⟨Gr.cell HX8.out k10_c00, Gr.cell HX8.out k10_c01, Gr.cell HX8.out k10_c02, Gr.cell HX8.out k10_c10, Gr.cell HX8.out k10_c11, Gr.cell HX8.out k10_c12, Gr.cell HX8.out k10_c20, Gr.cell HX8.out k10_c21, Gr.cell HX8.out k10_c22, Gr.cell HX8.out k10_c90, Gr.cell HX8.out k10_c91, Gr.cell HX8.out k10_c92⟩
      | with_reducible exact ⟨Gr.cell HX9.out k10_c00, Gr.cell HX9.out k10_c01, Gr.cell HX9.out k10_c02, Gr.cell HX9.out k10_c10, Gr.cell HX9.out k10_c11, Gr.cell HX9.out k10_c12, Gr.cell HX9.out k10_c20, Gr.cell HX9.out k10_c21, Gr.cell HX9.out k10_c22, Gr.cell HX9.out k10_c90, Gr.cell HX9.out k10_c91, Gr.cell HX9.out k10_c92⟩)
    (first
      | (go_at_call 12; refine (HS6.out x8 _ _ _ _ (HV7_8.out.le (by decide)) (HV8_8.out.le (by decide))).mono ?_; rintro e w7 ⟨rfl, hg⟩; have HX9 := hid (HX8.out.trans hg); clear hg)
      | (go_at_call 31; refine (rnorm_c x7 _ p 40 ((HAp.out.gr HX7.out).le (by decide)) (by decide) (by decide)).mono ?_; rintro e x8 ⟨g8, rfl, hv, hg⟩; have HX8 := hid (HX7.out.trans hg); have HV8_8 := hid hv; have HV7_8 := hid (HV7_7.out.gr hg); clear hv hg)
      | (go_at_call 24; refine (rmul_c x6 _ _ p 1 40 ((HAp.out.gr HX6.out).le (by decide)) ((HAone.out.gr HX6.out).aq.le (by decide)) (by decide) (by decide)).mono ?_; rintro e x7 ⟨g7, rfl, hv, hg⟩; have HX7 := hid (HX6.out.trans hg); have HV7_7 := hid hv; clear hv hg)
      | (go_at_call 12; refine (HS5.out x5 _ _ _ _ (HV2_5.out.le (by decide)) (HV5_5.out.le (by decide))).mono ?_; rintro e x6 ⟨rfl, hg⟩; have HX6 := hid (HX5.out.trans hg); clear hg)
      | (go_at_call 20; refine (radd_c x4 _ _ (p * q) (p * r) 81 (HV3_4.out.aq.le (by decide)) (HV4_4.out.aq.le (by decide)) (by decide) (by decide)).mono ?_; rintro e x5 ⟨g5, rfl, hv, hg⟩; have HX5 := hid (HX4.out.trans hg); have HV5_5 := hid hv; have HV2_5 := hid (HV2_4.out.gr hg); clear hv hg)
      | (go_at_call 24; refine (rmul_c x3 _ _ p r 40 ((HAp.out.gr HX3.out).le (by decide)) ((HAr.out.gr HX3.out).le (by decide)) (by decide) (by decide)).mono ?_; rintro e x4 ⟨g4, rfl, hv, hg⟩; have HX4 := hid (HX3.out.trans hg); have HV4_4 := hid hv; have HV2_4 := hid (HV2_3.out.gr hg); have HV3_4 := hid (HV3_3.out.gr hg); clear hv hg)
      | (go_at_call 24; refine (rmul_c x2 _ _ p q 40 ((HAp.out.gr HX2.out).le (by decide)) ((HAq.out.gr HX2.out).le (by decide)) (by decide) (by decide)).mono ?_; rintro e x3 ⟨g3, rfl, hv, hg⟩; have HX3 := hid (HX2.out.trans hg); have HV3_3 := hid hv; have HV2_3 := hid (HV2_2.out.gr hg); clear hv hg)
      | (go_at_call 24; refine (rmul_c x1 _ _ p (q + r) 81 ((HAp.out.gr HX1.out).le (by decide)) (HV1_1.out.aq.le (by decide)) (by decide) (by decide)).mono ?_; rintro e x2 ⟨g2, rfl, hv, hg⟩; have HX2 := hid (HX1.out.trans hg); have HV2_2 := hid hv; clear hv hg)
      | (go_at_call 20; refine (radd_c _ _ _ q r 40 ((HAq.out.gr ((Gr.refl w6).drew)).le (by decide)) ((HAr.out.gr ((Gr.refl w6).drew)).le (by decide)) (by decide) (by decide)).mono ?_; rintro e x1 ⟨g1, rfl, hv, hg⟩; have HX1 := hid (((Gr.refl w6).drew).trans hg); have HV1_1 := hid hv; clear hv hg))
  have k11_c00 := Gr.cell HX9.out k10_c00
  have k11_c01 := Gr.cell HX9.out k10_c01
  have k11_c02 := Gr.cell HX9.out k10_c02
  have k11_c10 := Gr.cell HX9.out k10_c10
  have k11_c11 := Gr.cell HX9.out k10_c11
  have k11_c12 := Gr.cell HX9.out k10_c12
  have k11_c20 := Gr.cell HX9.out k10_c20
  have k11_c21 := Gr.cell HX9.out k10_c21
  have k11_c22 := Gr.cell HX9.out k10_c22
  have k11_c90 := Gr.cell HX9.out k10_c90
  have k11_c91 := Gr.cell HX9.out k10_c91
  have k11_c92 := Gr.cell HX9.out k10_c92
  have HG := hid (HG.out.trans HX9.out)
  have HAp := hid (HAp.out.gr HX9.out)
  have HAq := hid (HAq.out.gr HX9.out)
  have HAr := hid (HAr.out.gr HX9.out)
  have HAone := hid (HAone.out.gr HX9.out)
  clear k10_c00 k10_c01 k10_c02 k10_c10 k10_c11 k10_c12 k10_c20 k10_c21 k10_c22 k10_c90 k10_c91 k10_c92 HX1 HX2 HX3 HX4 HX5 HX6 HX7 HX8 HX9
  go_wp2
  go_region_held3 (fun V => V.cell? ⟨W.heap.size, 0, none⟩ = some (.bool s0) ∧ V.cell? ⟨W.heap.size, 1, none⟩ = some (.slice A0 l0 c0) ∧ V.cell? ⟨W.heap.size, 2, none⟩ = some (.slice B0 m0 e0) ∧ V.cell? ⟨W.heap.size + 1, 0, none⟩ = some (.bool s1) ∧ V.cell? ⟨W.heap.size + 1, 1, none⟩ = some (.slice A1 l1 c1) ∧ V.cell? ⟨W.heap.size + 1, 2, none⟩ = some (.slice B1 m1 e1) ∧ V.cell? ⟨W.heap.size + 2, 0, none⟩ = some (.bool s2) ∧ V.cell? ⟨W.heap.size + 2, 1, none⟩ = some (.slice A2 l2 c2) ∧ V.cell? ⟨W.heap.size + 2, 2, none⟩ = some (.slice B2 m2 e2) ∧ V.cell? ⟨w4.heap.size, 0, none⟩ = some (.bool s9) ∧ V.cell? ⟨w4.heap.size, 1, none⟩ = some (.slice A9 l9 c9) ∧ V.cell? ⟨w4.heap.size, 2, none⟩ = some (.slice B9 m9 e9))
    (first
      | exact ⟨k11_c00, k11_c01, k11_c02, k11_c10, k11_c11, k11_c12, k11_c20, k11_c21, k11_c22, k11_c90, k11_c91, k11_c92⟩
      | with_reducible exact ⟨Gr.cell HX1.out k11_c00, Gr.cell HX1.out k11_c01, Gr.cell HX1.out k11_c02, Gr.cell HX1.out k11_c10, Gr.cell HX1.out k11_c11, Gr.cell HX1.out k11_c12, Gr.cell HX1.out k11_c20, Gr.cell HX1.out k11_c21, Gr.cell HX1.out k11_c22, Gr.cell HX1.out k11_c90, Gr.cell HX1.out k11_c91, Gr.cell HX1.out k11_c92⟩
      | with_reducible exact ⟨Gr.cell HX2.out k11_c00, Gr.cell HX2.out k11_c01, Gr.cell HX2.out k11_c02, Gr.cell HX2.out k11_c10, Gr.cell HX2.out k11_c11, Gr.cell HX2.out k11_c12, Gr.cell HX2.out k11_c20, Gr.cell HX2.out k11_c21, Gr.cell HX2.out k11_c22, Gr.cell HX2.out k11_c90, Gr.cell HX2.out k11_c91, Gr.cell HX2.out k11_c92⟩
      | with_reducible exact ⟨Gr.cell HX3.out k11_c00, Gr.cell HX3.out k11_c01, Gr.cell HX3.out k11_c02, Gr.cell HX3.out k11_c10, Gr.cell HX3.out k11_c11, Gr.cell HX3.out k11_c12, Gr.cell HX3.out k11_c20, Gr.cell HX3.out k11_c21, Gr.cell HX3.out k11_c22, Gr.cell HX3.out k11_c90, Gr.cell HX3.out k11_c91, Gr.cell HX3.out k11_c92⟩
      | with_reducible exact ⟨Gr.cell HX4.out k11_c00, Gr.cell HX4.out k11_c01, Gr.cell HX4.out k11_c02, Gr.cell HX4.out k11_c10, Gr.cell HX4.out k11_c11, Gr.cell HX4.out k11_c12, Gr.cell HX4.out k11_c20, Gr.cell HX4.out k11_c21, Gr.cell HX4.out k11_c22, Gr.cell HX4.out k11_c90, Gr.cell HX4.out k11_c91, Gr.cell HX4.out k11_c92⟩
      | with_reducible exact ⟨Gr.cell HX5.out k11_c00, Gr.cell HX5.out k11_c01, Gr.cell HX5.out k11_c02, Gr.cell HX5.out k11_c10, Gr.cell HX5.out k11_c11, Gr.cell HX5.out k11_c12, Gr.cell HX5.out k11_c20, Gr.cell HX5.out k11_c21, Gr.cell HX5.out k11_c22, Gr.cell HX5.out k11_c90, Gr.cell HX5.out k11_c91, Gr.cell HX5.out k11_c92⟩
      | with_reducible exact ⟨Gr.cell HX6.out k11_c00, Gr.cell HX6.out k11_c01, Gr.cell HX6.out k11_c02, Gr.cell HX6.out k11_c10, Gr.cell HX6.out k11_c11, Gr.cell HX6.out k11_c12, Gr.cell HX6.out k11_c20, Gr.cell HX6.out k11_c21, Gr.cell HX6.out k11_c22, Gr.cell HX6.out k11_c90, Gr.cell HX6.out k11_c91, Gr.cell HX6.out k11_c92⟩)
    (first
      | (go_at_call 34; refine (HZ0.out x5 _ (HV5_5.out.aq.le (by decide))).mono ?_; rintro e w8 ⟨rfl, hg⟩; have HX6 := hid (HX5.out.trans hg); clear hg)
      | (go_at_call 22; refine (rsub_c x4 _ _ p p 40 ((HAp.out.gr HX4.out).le (by decide)) ((HAp.out.gr HX4.out).le (by decide)) (by decide) (by decide)).mono ?_; rintro e x5 ⟨g5, rfl, hv, hg⟩; have HX5 := hid (HX4.out.trans hg); have HV5_5 := hid hv; clear hv hg)
      | (go_at_call 12; refine (HS7.out x3 _ _ _ _ (HV2_3.out.le (by decide)) (HV3_3.out.le (by decide))).mono ?_; rintro e x4 ⟨rfl, hg⟩; have HX4 := hid (HX3.out.trans hg); clear hg)
      | (go_at_call 31; refine (rnorm_c x2 _ p 40 ((HAp.out.gr HX2.out).le (by decide)) (by decide) (by decide)).mono ?_; rintro e x3 ⟨g3, rfl, hv, hg⟩; have HX3 := hid (HX2.out.trans hg); have HV3_3 := hid hv; have HV2_3 := hid (HV2_2.out.gr hg); clear hv hg)
      | (go_at_call 20; refine (radd_c x1 _ _ (p - q) q 81 (HV1_1.out.aq.le (by decide)) ((HAq.out.gr HX1.out).le (by decide)) (by decide) (by decide)).mono ?_; rintro e x2 ⟨g2, rfl, hv, hg⟩; have HX2 := hid (HX1.out.trans hg); have HV2_2 := hid hv; clear hv hg)
      | (go_at_call 22; refine (rsub_c _ _ _ p q 40 ((HAp.out.gr ((Gr.refl w7).drew)).le (by decide)) ((HAq.out.gr ((Gr.refl w7).drew)).le (by decide)) (by decide) (by decide)).mono ?_; rintro e x1 ⟨g1, rfl, hv, hg⟩; have HX1 := hid (((Gr.refl w7).drew).trans hg); have HV1_1 := hid hv; clear hv hg))
  have k12_c00 := Gr.cell HX6.out k11_c00
  have k12_c01 := Gr.cell HX6.out k11_c01
  have k12_c02 := Gr.cell HX6.out k11_c02
  have k12_c10 := Gr.cell HX6.out k11_c10
  have k12_c11 := Gr.cell HX6.out k11_c11
  have k12_c12 := Gr.cell HX6.out k11_c12
  have k12_c20 := Gr.cell HX6.out k11_c20
  have k12_c21 := Gr.cell HX6.out k11_c21
  have k12_c22 := Gr.cell HX6.out k11_c22
  have k12_c90 := Gr.cell HX6.out k11_c90
  have k12_c91 := Gr.cell HX6.out k11_c91
  have k12_c92 := Gr.cell HX6.out k11_c92
  have HG := hid (HG.out.trans HX6.out)
  have HAp := hid (HAp.out.gr HX6.out)
  have HAq := hid (HAq.out.gr HX6.out)
  have HAr := hid (HAr.out.gr HX6.out)
  have HAone := hid (HAone.out.gr HX6.out)
  clear k11_c00 k11_c01 k11_c02 k11_c10 k11_c11 k11_c12 k11_c20 k11_c21 k11_c22 k11_c90 k11_c91 k11_c92 HX1 HX2 HX3 HX4 HX5 HX6
  cases ok with
  | true =>
    have hsb : (sb != 0) = true := HOK.out.symm
    have hq0 : q ≠ 0 := HOKQ.out rfl
    have HS8 : Hid (∀ (V : World) (b1 b2 : Nat) (u v : Value), VQ V b1 u (p / q * q) 161 → VQ V b2 v (p) 161 → Calls Try.prog 12 #[u, v] V (Is V (.bool true))) := fun V b1 b2 u v h1 h2 => by
      have h := same_c V b1 b2 u v _ _ 161 h1 h2 (by decide)
      rw [decide_eq_true (Rat.div_mul_cancel hq0)] at h
      exact h
    clear hq0
    go_wp2_with fail
    refine (HDV.out w8 _ _ HAp.out HAq.out).mono ?_
    rintro e w9 ⟨v, rfl, h1, hg⟩
    have HX := hid hg
    clear hg
    obtain ⟨A8, l8, c8, B8, m8, e8, rfl, h1⟩ := h1.form
    obtain ⟨s8, hs8⟩ : ∃ b, b = decide ((p / q).num < 0) := ⟨_, rfl⟩
    rw [← hs8] at h1 ⊢
    have HAqt := hid h1
    clear h1 hs8
    have k13_c00 := Gr.cell HX.out k12_c00
    have k13_c01 := Gr.cell HX.out k12_c01
    have k13_c02 := Gr.cell HX.out k12_c02
    have k13_c10 := Gr.cell HX.out k12_c10
    have k13_c11 := Gr.cell HX.out k12_c11
    have k13_c12 := Gr.cell HX.out k12_c12
    have k13_c20 := Gr.cell HX.out k12_c20
    have k13_c21 := Gr.cell HX.out k12_c21
    have k13_c22 := Gr.cell HX.out k12_c22
    have k13_c90 := Gr.cell HX.out k12_c90
    have k13_c91 := Gr.cell HX.out k12_c91
    have k13_c92 := Gr.cell HX.out k12_c92
    have HG := hid (HG.out.trans HX.out)
    have HAp := hid (HAp.out.gr HX.out)
    have HAq := hid (HAq.out.gr HX.out)
    have HAr := hid (HAr.out.gr HX.out)
    have HAone := hid (HAone.out.gr HX.out)
    clear k12_c00 k12_c01 k12_c02 k12_c10 k12_c11 k12_c12 k12_c20 k12_c21 k12_c22 k12_c90 k12_c91 k12_c92 HX
    go_upto_region 13 with (fail)
    obtain ⟨W4, hW⟩ : ∃ V, V = w9.alloc (.cells #[.bool s8, .slice A8 l8 c8, .slice B8 m8 e8] 27) := ⟨_, rfl⟩
    obtain ⟨hg, b1⟩ := al1 w9 #[.bool s8, .slice A8 l8 c8, .slice B8 m8 e8] 27
    rw [← hW] at hg b1 ⊢
    clear hW
    have HX := hid hg
    clear hg
    have HAqt := hid (HAqt.out)
    have k14_c00 := Gr.cell HX.out k13_c00
    have k14_c01 := Gr.cell HX.out k13_c01
    have k14_c02 := Gr.cell HX.out k13_c02
    have k14_c10 := Gr.cell HX.out k13_c10
    have k14_c11 := Gr.cell HX.out k13_c11
    have k14_c12 := Gr.cell HX.out k13_c12
    have k14_c20 := Gr.cell HX.out k13_c20
    have k14_c21 := Gr.cell HX.out k13_c21
    have k14_c22 := Gr.cell HX.out k13_c22
    have k14_c90 := Gr.cell HX.out k13_c90
    have k14_c91 := Gr.cell HX.out k13_c91
    have k14_c92 := Gr.cell HX.out k13_c92
    have HG := hid (HG.out.trans HX.out)
    have HAp := hid (HAp.out.gr HX.out)
    have HAq := hid (HAq.out.gr HX.out)
    have HAr := hid (HAr.out.gr HX.out)
    have HAone := hid (HAone.out.gr HX.out)
    have HAqt := hid (HAqt.out.gr HX.out)
    clear k13_c00 k13_c01 k13_c02 k13_c10 k13_c11 k13_c12 k13_c20 k13_c21 k13_c22 k13_c90 k13_c91 k13_c92 HX
    have n8_c80 : W4.cell? ⟨w9.heap.size, 0, none⟩ = some (.bool s8) := b1.c 0 rfl
    have n8_c81 : W4.cell? ⟨w9.heap.size, 1, none⟩ = some (.slice A8 l8 c8) := b1.c 1 rfl
    have n8_c82 : W4.cell? ⟨w9.heap.size, 2, none⟩ = some (.slice B8 m8 e8) := b1.c 2 rfl
    clear b1
    go_region_held3 (fun V => V.cell? ⟨W.heap.size, 0, none⟩ = some (.bool s0) ∧ V.cell? ⟨W.heap.size, 1, none⟩ = some (.slice A0 l0 c0) ∧ V.cell? ⟨W.heap.size, 2, none⟩ = some (.slice B0 m0 e0) ∧ V.cell? ⟨W.heap.size + 1, 0, none⟩ = some (.bool s1) ∧ V.cell? ⟨W.heap.size + 1, 1, none⟩ = some (.slice A1 l1 c1) ∧ V.cell? ⟨W.heap.size + 1, 2, none⟩ = some (.slice B1 m1 e1) ∧ V.cell? ⟨W.heap.size + 2, 0, none⟩ = some (.bool s2) ∧ V.cell? ⟨W.heap.size + 2, 1, none⟩ = some (.slice A2 l2 c2) ∧ V.cell? ⟨W.heap.size + 2, 2, none⟩ = some (.slice B2 m2 e2) ∧ V.cell? ⟨w4.heap.size, 0, none⟩ = some (.bool s9) ∧ V.cell? ⟨w4.heap.size, 1, none⟩ = some (.slice A9 l9 c9) ∧ V.cell? ⟨w4.heap.size, 2, none⟩ = some (.slice B9 m9 e9) ∧ V.cell? ⟨w9.heap.size, 0, none⟩ = some (.bool s8) ∧ V.cell? ⟨w9.heap.size, 1, none⟩ = some (.slice A8 l8 c8) ∧ V.cell? ⟨w9.heap.size, 2, none⟩ = some (.slice B8 m8 e8))
      (first
        | exact ⟨k14_c00, k14_c01, k14_c02, k14_c10, k14_c11, k14_c12, k14_c20, k14_c21, k14_c22, k14_c90, k14_c91, k14_c92, n8_c80, n8_c81, n8_c82⟩
        | with_reducible exact ⟨Gr.cell HX1.out k14_c00, Gr.cell HX1.out k14_c01, Gr.cell HX1.out k14_c02, Gr.cell HX1.out k14_c10, Gr.cell HX1.out k14_c11, Gr.cell HX1.out k14_c12, Gr.cell HX1.out k14_c20, Gr.cell HX1.out k14_c21, Gr.cell HX1.out k14_c22, Gr.cell HX1.out k14_c90, Gr.cell HX1.out k14_c91, Gr.cell HX1.out k14_c92, Gr.cell HX1.out n8_c80, Gr.cell HX1.out n8_c81, Gr.cell HX1.out n8_c82⟩
        | with_reducible exact ⟨Gr.cell HX2.out k14_c00, Gr.cell HX2.out k14_c01, Gr.cell HX2.out k14_c02, Gr.cell HX2.out k14_c10, Gr.cell HX2.out k14_c11, Gr.cell HX2.out k14_c12, Gr.cell HX2.out k14_c20, Gr.cell HX2.out k14_c21, Gr.cell HX2.out k14_c22, Gr.cell HX2.out k14_c90, Gr.cell HX2.out k14_c91, Gr.cell HX2.out k14_c92, Gr.cell HX2.out n8_c80, Gr.cell HX2.out n8_c81, Gr.cell HX2.out n8_c82⟩
        | with_reducible exact ⟨Gr.cell HX3.out k14_c00, Gr.cell HX3.out k14_c01, Gr.cell HX3.out k14_c02, Gr.cell HX3.out k14_c10, Gr.cell HX3.out k14_c11, Gr.cell HX3.out k14_c12, Gr.cell HX3.out k14_c20, Gr.cell HX3.out k14_c21, Gr.cell HX3.out k14_c22, Gr.cell HX3.out k14_c90, Gr.cell HX3.out k14_c91, Gr.cell HX3.out k14_c92, Gr.cell HX3.out n8_c80, Gr.cell HX3.out n8_c81, Gr.cell HX3.out n8_c82⟩
        | with_reducible exact ⟨Gr.cell HX4.out k14_c00, Gr.cell HX4.out k14_c01, Gr.cell HX4.out k14_c02, Gr.cell HX4.out k14_c10, Gr.cell HX4.out k14_c11, Gr.cell HX4.out k14_c12, Gr.cell HX4.out k14_c20, Gr.cell HX4.out k14_c21, Gr.cell HX4.out k14_c22, Gr.cell HX4.out k14_c90, Gr.cell HX4.out k14_c91, Gr.cell HX4.out k14_c92, Gr.cell HX4.out n8_c80, Gr.cell HX4.out n8_c81, Gr.cell HX4.out n8_c82⟩)
      (first
        | (go_at_call 12; refine (HS8.out x3 _ _ _ _ (HV2_3.out.le (by decide)) (HV3_3.out.le (by decide))).mono ?_; rintro e w10 ⟨rfl, hg⟩; have HX4 := hid (HX3.out.trans hg); clear hg)
        | (go_at_call 31; refine (rnorm_c x2 _ p 40 ((HAp.out.gr HX2.out).le (by decide)) (by decide) (by decide)).mono ?_; rintro e x3 ⟨g3, rfl, hv, hg⟩; have HX3 := hid (HX2.out.trans hg); have HV3_3 := hid hv; have HV2_3 := hid (HV2_2.out.gr hg); clear hv hg)
        | (go_at_call 24; refine (rmul_c x1 _ _ (p / q) q 80 ((HAqt.out.gr HX1.out).aq.le (by decide)) ((HAq.out.gr HX1.out).le (by decide)) (by decide) (by decide)).mono ?_; rintro e x2 ⟨g2, rfl, hv, hg⟩; have HX2 := hid (HX1.out.trans hg); have HV2_2 := hid hv; clear hv hg)
        | (go_at_call 34; refine (HSB.out _ _ ((HAq.out.gr ((Gr.refl W4).drew)).le (by decide))).mono ?_; rintro e x1 ⟨rfl, hg⟩; have HX1 := hid (((Gr.refl W4).drew).trans hg); clear hg))
    have k15_c00 := Gr.cell HX4.out k14_c00
    have k15_c01 := Gr.cell HX4.out k14_c01
    have k15_c02 := Gr.cell HX4.out k14_c02
    have k15_c10 := Gr.cell HX4.out k14_c10
    have k15_c11 := Gr.cell HX4.out k14_c11
    have k15_c12 := Gr.cell HX4.out k14_c12
    have k15_c20 := Gr.cell HX4.out k14_c20
    have k15_c21 := Gr.cell HX4.out k14_c21
    have k15_c22 := Gr.cell HX4.out k14_c22
    have k15_c90 := Gr.cell HX4.out k14_c90
    have k15_c91 := Gr.cell HX4.out k14_c91
    have k15_c92 := Gr.cell HX4.out k14_c92
    have k15_c80 := Gr.cell HX4.out n8_c80
    have k15_c81 := Gr.cell HX4.out n8_c81
    have k15_c82 := Gr.cell HX4.out n8_c82
    have HG := hid (HG.out.trans HX4.out)
    have HAp := hid (HAp.out.gr HX4.out)
    have HAq := hid (HAq.out.gr HX4.out)
    have HAr := hid (HAr.out.gr HX4.out)
    have HAone := hid (HAone.out.gr HX4.out)
    have HAqt := hid (HAqt.out.gr HX4.out)
    clear k14_c00 k14_c01 k14_c02 k14_c10 k14_c11 k14_c12 k14_c20 k14_c21 k14_c22 k14_c90 k14_c91 k14_c92 n8_c80 n8_c81 n8_c82 HX1 HX2 HX3 HX4
    go_wp2_with fail
    refine (HCK.out w10 _ _ HAp.out HAq.out).mono ?_
    rintro e w11 ⟨rfl, hg⟩
    have HX := hid hg
    clear hg
    have k16_c00 := Gr.cell HX.out k15_c00
    have k16_c01 := Gr.cell HX.out k15_c01
    have k16_c02 := Gr.cell HX.out k15_c02
    have k16_c10 := Gr.cell HX.out k15_c10
    have k16_c11 := Gr.cell HX.out k15_c11
    have k16_c12 := Gr.cell HX.out k15_c12
    have k16_c20 := Gr.cell HX.out k15_c20
    have k16_c21 := Gr.cell HX.out k15_c21
    have k16_c22 := Gr.cell HX.out k15_c22
    have k16_c90 := Gr.cell HX.out k15_c90
    have k16_c91 := Gr.cell HX.out k15_c91
    have k16_c92 := Gr.cell HX.out k15_c92
    have k16_c80 := Gr.cell HX.out k15_c80
    have k16_c81 := Gr.cell HX.out k15_c81
    have k16_c82 := Gr.cell HX.out k15_c82
    have HG := hid (HG.out.trans HX.out)
    have HAp := hid (HAp.out.gr HX.out)
    have HAq := hid (HAq.out.gr HX.out)
    have HAr := hid (HAr.out.gr HX.out)
    have HAone := hid (HAone.out.gr HX.out)
    have HAqt := hid (HAqt.out.gr HX.out)
    clear k15_c00 k15_c01 k15_c02 k15_c10 k15_c11 k15_c12 k15_c20 k15_c21 k15_c22 k15_c90 k15_c91 k15_c92 k15_c80 k15_c81 k15_c82 HX
    go_wp2
    go_region_held3 (fun V => V.cell? ⟨W.heap.size, 0, none⟩ = some (.bool s0) ∧ V.cell? ⟨W.heap.size, 1, none⟩ = some (.slice A0 l0 c0) ∧ V.cell? ⟨W.heap.size, 2, none⟩ = some (.slice B0 m0 e0) ∧ V.cell? ⟨W.heap.size + 1, 0, none⟩ = some (.bool s1) ∧ V.cell? ⟨W.heap.size + 1, 1, none⟩ = some (.slice A1 l1 c1) ∧ V.cell? ⟨W.heap.size + 1, 2, none⟩ = some (.slice B1 m1 e1) ∧ V.cell? ⟨W.heap.size + 2, 0, none⟩ = some (.bool s2) ∧ V.cell? ⟨W.heap.size + 2, 1, none⟩ = some (.slice A2 l2 c2) ∧ V.cell? ⟨W.heap.size + 2, 2, none⟩ = some (.slice B2 m2 e2) ∧ V.cell? ⟨w4.heap.size, 0, none⟩ = some (.bool s9) ∧ V.cell? ⟨w4.heap.size, 1, none⟩ = some (.slice A9 l9 c9) ∧ V.cell? ⟨w4.heap.size, 2, none⟩ = some (.slice B9 m9 e9) ∧ V.cell? ⟨w9.heap.size, 0, none⟩ = some (.bool s8) ∧ V.cell? ⟨w9.heap.size, 1, none⟩ = some (.slice A8 l8 c8) ∧ V.cell? ⟨w9.heap.size, 2, none⟩ = some (.slice B8 m8 e8))
      (first
        | exact ⟨k16_c00, k16_c01, k16_c02, k16_c10, k16_c11, k16_c12, k16_c20, k16_c21, k16_c22, k16_c90, k16_c91, k16_c92, k16_c80, k16_c81, k16_c82⟩
        | with_reducible exact ⟨Gr.cell HX1.out k16_c00, Gr.cell HX1.out k16_c01, Gr.cell HX1.out k16_c02, Gr.cell HX1.out k16_c10, Gr.cell HX1.out k16_c11, Gr.cell HX1.out k16_c12, Gr.cell HX1.out k16_c20, Gr.cell HX1.out k16_c21, Gr.cell HX1.out k16_c22, Gr.cell HX1.out k16_c90, Gr.cell HX1.out k16_c91, Gr.cell HX1.out k16_c92, Gr.cell HX1.out k16_c80, Gr.cell HX1.out k16_c81, Gr.cell HX1.out k16_c82⟩
        | with_reducible exact ⟨Gr.cell HX2.out k16_c00, Gr.cell HX2.out k16_c01, Gr.cell HX2.out k16_c02, Gr.cell HX2.out k16_c10, Gr.cell HX2.out k16_c11, Gr.cell HX2.out k16_c12, Gr.cell HX2.out k16_c20, Gr.cell HX2.out k16_c21, Gr.cell HX2.out k16_c22, Gr.cell HX2.out k16_c90, Gr.cell HX2.out k16_c91, Gr.cell HX2.out k16_c92, Gr.cell HX2.out k16_c80, Gr.cell HX2.out k16_c81, Gr.cell HX2.out k16_c82⟩
        | with_reducible exact ⟨Gr.cell HX3.out k16_c00, Gr.cell HX3.out k16_c01, Gr.cell HX3.out k16_c02, Gr.cell HX3.out k16_c10, Gr.cell HX3.out k16_c11, Gr.cell HX3.out k16_c12, Gr.cell HX3.out k16_c20, Gr.cell HX3.out k16_c21, Gr.cell HX3.out k16_c22, Gr.cell HX3.out k16_c90, Gr.cell HX3.out k16_c91, Gr.cell HX3.out k16_c92, Gr.cell HX3.out k16_c80, Gr.cell HX3.out k16_c81, Gr.cell HX3.out k16_c82⟩
        | with_reducible exact ⟨Gr.cell HX4.out k16_c00, Gr.cell HX4.out k16_c01, Gr.cell HX4.out k16_c02, Gr.cell HX4.out k16_c10, Gr.cell HX4.out k16_c11, Gr.cell HX4.out k16_c12, Gr.cell HX4.out k16_c20, Gr.cell HX4.out k16_c21, Gr.cell HX4.out k16_c22, Gr.cell HX4.out k16_c90, Gr.cell HX4.out k16_c91, Gr.cell HX4.out k16_c92, Gr.cell HX4.out k16_c80, Gr.cell HX4.out k16_c81, Gr.cell HX4.out k16_c82⟩
        | with_reducible exact ⟨Gr.cell HX5.out k16_c00, Gr.cell HX5.out k16_c01, Gr.cell HX5.out k16_c02, Gr.cell HX5.out k16_c10, Gr.cell HX5.out k16_c11, Gr.cell HX5.out k16_c12, Gr.cell HX5.out k16_c20, Gr.cell HX5.out k16_c21, Gr.cell HX5.out k16_c22, Gr.cell HX5.out k16_c90, Gr.cell HX5.out k16_c91, Gr.cell HX5.out k16_c92, Gr.cell HX5.out k16_c80, Gr.cell HX5.out k16_c81, Gr.cell HX5.out k16_c82⟩
        | with_reducible exact ⟨Gr.cell HX6.out k16_c00, Gr.cell HX6.out k16_c01, Gr.cell HX6.out k16_c02, Gr.cell HX6.out k16_c10, Gr.cell HX6.out k16_c11, Gr.cell HX6.out k16_c12, Gr.cell HX6.out k16_c20, Gr.cell HX6.out k16_c21, Gr.cell HX6.out k16_c22, Gr.cell HX6.out k16_c90, Gr.cell HX6.out k16_c91, Gr.cell HX6.out k16_c92, Gr.cell HX6.out k16_c80, Gr.cell HX6.out k16_c81, Gr.cell HX6.out k16_c82⟩)
      (first
        | (go_at_call 18; refine (HCA.out x5 _ _ (HV4_5.out.aq.le (by decide)) (HV5_5.out.aq.le (by decide))).mono ?_; rintro e w12 ⟨rfl, hg⟩; have HX6 := hid (HX5.out.trans hg); clear hg)
        | (go_at_call 20; refine (radd_c x4 _ _ q r 40 ((HAq.out.gr HX4.out).le (by decide)) ((HAr.out.gr HX4.out).le (by decide)) (by decide) (by decide)).mono ?_; rintro e x5 ⟨g5, rfl, hv, hg⟩; have HX5 := hid (HX4.out.trans hg); have HV5_5 := hid hv; have HV4_5 := hid (HV4_4.out.gr hg); clear hv hg)
        | (go_at_call 20; refine (radd_c x3 _ _ p r 40 ((HAp.out.gr HX3.out).le (by decide)) ((HAr.out.gr HX3.out).le (by decide)) (by decide) (by decide)).mono ?_; rintro e x4 ⟨g4, rfl, hv, hg⟩; have HX4 := hid (HX3.out.trans hg); have HV4_4 := hid hv; clear hv hg)
        | (go_at_call 34; refine (HSD.out x2 _ (HV2_2.out.aq.le (by decide))).mono ?_; rintro e x3 ⟨rfl, hg⟩; have HX3 := hid (HX2.out.trans hg); clear hg)
        | (go_at_call 22; refine (rsub_c x1 _ _ p q 40 ((HAp.out.gr HX1.out).le (by decide)) ((HAq.out.gr HX1.out).le (by decide)) (by decide) (by decide)).mono ?_; rintro e x2 ⟨g2, rfl, hv, hg⟩; have HX2 := hid (HX1.out.trans hg); have HV2_2 := hid hv; clear hv hg)
        | (go_at_call 18; refine (HCK2.out _ _ _ ((HAq.out.gr ((Gr.refl w11).drew)).le (by decide)) ((HAp.out.gr ((Gr.refl w11).drew)).le (by decide))).mono ?_; rintro e x1 ⟨rfl, hg⟩; have HX1 := hid (((Gr.refl w11).drew).trans hg); clear hg))
    have k17_c00 := Gr.cell HX6.out k16_c00
    have k17_c01 := Gr.cell HX6.out k16_c01
    have k17_c02 := Gr.cell HX6.out k16_c02
    have k17_c10 := Gr.cell HX6.out k16_c10
    have k17_c11 := Gr.cell HX6.out k16_c11
    have k17_c12 := Gr.cell HX6.out k16_c12
    have k17_c20 := Gr.cell HX6.out k16_c20
    have k17_c21 := Gr.cell HX6.out k16_c21
    have k17_c22 := Gr.cell HX6.out k16_c22
    have k17_c90 := Gr.cell HX6.out k16_c90
    have k17_c91 := Gr.cell HX6.out k16_c91
    have k17_c92 := Gr.cell HX6.out k16_c92
    have k17_c80 := Gr.cell HX6.out k16_c80
    have k17_c81 := Gr.cell HX6.out k16_c81
    have k17_c82 := Gr.cell HX6.out k16_c82
    have HG := hid (HG.out.trans HX6.out)
    have HAp := hid (HAp.out.gr HX6.out)
    have HAq := hid (HAq.out.gr HX6.out)
    have HAr := hid (HAr.out.gr HX6.out)
    have HAone := hid (HAone.out.gr HX6.out)
    have HAqt := hid (HAqt.out.gr HX6.out)
    clear k16_c00 k16_c01 k16_c02 k16_c10 k16_c11 k16_c12 k16_c20 k16_c21 k16_c22 k16_c90 k16_c91 k16_c92 k16_c80 k16_c81 k16_c82 HX1 HX2 HX3 HX4 HX5 HX6
    go_wp2
    go_region_held3 (fun V => V.cell? ⟨W.heap.size, 0, none⟩ = some (.bool s0) ∧ V.cell? ⟨W.heap.size, 1, none⟩ = some (.slice A0 l0 c0) ∧ V.cell? ⟨W.heap.size, 2, none⟩ = some (.slice B0 m0 e0) ∧ V.cell? ⟨W.heap.size + 1, 0, none⟩ = some (.bool s1) ∧ V.cell? ⟨W.heap.size + 1, 1, none⟩ = some (.slice A1 l1 c1) ∧ V.cell? ⟨W.heap.size + 1, 2, none⟩ = some (.slice B1 m1 e1) ∧ V.cell? ⟨W.heap.size + 2, 0, none⟩ = some (.bool s2) ∧ V.cell? ⟨W.heap.size + 2, 1, none⟩ = some (.slice A2 l2 c2) ∧ V.cell? ⟨W.heap.size + 2, 2, none⟩ = some (.slice B2 m2 e2) ∧ V.cell? ⟨w4.heap.size, 0, none⟩ = some (.bool s9) ∧ V.cell? ⟨w4.heap.size, 1, none⟩ = some (.slice A9 l9 c9) ∧ V.cell? ⟨w4.heap.size, 2, none⟩ = some (.slice B9 m9 e9) ∧ V.cell? ⟨w9.heap.size, 0, none⟩ = some (.bool s8) ∧ V.cell? ⟨w9.heap.size, 1, none⟩ = some (.slice A8 l8 c8) ∧ V.cell? ⟨w9.heap.size, 2, none⟩ = some (.slice B8 m8 e8))
      (first
        | exact ⟨k17_c00, k17_c01, k17_c02, k17_c10, k17_c11, k17_c12, k17_c20, k17_c21, k17_c22, k17_c90, k17_c91, k17_c92, k17_c80, k17_c81, k17_c82⟩
        | with_reducible exact ⟨Gr.cell HX1.out k17_c00, Gr.cell HX1.out k17_c01, Gr.cell HX1.out k17_c02, Gr.cell HX1.out k17_c10, Gr.cell HX1.out k17_c11, Gr.cell HX1.out k17_c12, Gr.cell HX1.out k17_c20, Gr.cell HX1.out k17_c21, Gr.cell HX1.out k17_c22, Gr.cell HX1.out k17_c90, Gr.cell HX1.out k17_c91, Gr.cell HX1.out k17_c92, Gr.cell HX1.out k17_c80, Gr.cell HX1.out k17_c81, Gr.cell HX1.out k17_c82⟩
        | with_reducible exact ⟨Gr.cell HX2.out k17_c00, Gr.cell HX2.out k17_c01, Gr.cell HX2.out k17_c02, Gr.cell HX2.out k17_c10, Gr.cell HX2.out k17_c11, Gr.cell HX2.out k17_c12, Gr.cell HX2.out k17_c20, Gr.cell HX2.out k17_c21, Gr.cell HX2.out k17_c22, Gr.cell HX2.out k17_c90, Gr.cell HX2.out k17_c91, Gr.cell HX2.out k17_c92, Gr.cell HX2.out k17_c80, Gr.cell HX2.out k17_c81, Gr.cell HX2.out k17_c82⟩
        | with_reducible exact ⟨Gr.cell HX3.out k17_c00, Gr.cell HX3.out k17_c01, Gr.cell HX3.out k17_c02, Gr.cell HX3.out k17_c10, Gr.cell HX3.out k17_c11, Gr.cell HX3.out k17_c12, Gr.cell HX3.out k17_c20, Gr.cell HX3.out k17_c21, Gr.cell HX3.out k17_c22, Gr.cell HX3.out k17_c90, Gr.cell HX3.out k17_c91, Gr.cell HX3.out k17_c92, Gr.cell HX3.out k17_c80, Gr.cell HX3.out k17_c81, Gr.cell HX3.out k17_c82⟩
        | with_reducible exact ⟨Gr.cell HX4.out k17_c00, Gr.cell HX4.out k17_c01, Gr.cell HX4.out k17_c02, Gr.cell HX4.out k17_c10, Gr.cell HX4.out k17_c11, Gr.cell HX4.out k17_c12, Gr.cell HX4.out k17_c20, Gr.cell HX4.out k17_c21, Gr.cell HX4.out k17_c22, Gr.cell HX4.out k17_c90, Gr.cell HX4.out k17_c91, Gr.cell HX4.out k17_c92, Gr.cell HX4.out k17_c80, Gr.cell HX4.out k17_c81, Gr.cell HX4.out k17_c82⟩)
      (first
        | (go_at_call 18; refine (HCM.out x3 _ _ (HV2_3.out.aq.le (by decide)) (HV3_3.out.aq.le (by decide))).mono ?_; rintro e w13 ⟨rfl, hg⟩; have HX4 := hid (HX3.out.trans hg); clear hg)
        | (go_at_call 24; refine (rmul_c x2 _ _ q r 40 ((HAq.out.gr HX2.out).le (by decide)) ((HAr.out.gr HX2.out).le (by decide)) (by decide) (by decide)).mono ?_; rintro e x3 ⟨g3, rfl, hv, hg⟩; have HX3 := hid (HX2.out.trans hg); have HV3_3 := hid hv; have HV2_3 := hid (HV2_2.out.gr hg); clear hv hg)
        | (go_at_call 24; refine (rmul_c x1 _ _ p r 40 ((HAp.out.gr HX1.out).le (by decide)) ((HAr.out.gr HX1.out).le (by decide)) (by decide) (by decide)).mono ?_; rintro e x2 ⟨g2, rfl, hv, hg⟩; have HX2 := hid (HX1.out.trans hg); have HV2_2 := hid hv; clear hv hg)
        | (go_at_call 34; refine (HSC.out _ _ ((HAr.out.gr ((Gr.refl w12).drew)).le (by decide))).mono ?_; rintro e x1 ⟨rfl, hg⟩; have HX1 := hid (((Gr.refl w12).drew).trans hg); clear hg))
    have k18_c00 := Gr.cell HX4.out k17_c00
    have k18_c01 := Gr.cell HX4.out k17_c01
    have k18_c02 := Gr.cell HX4.out k17_c02
    have k18_c10 := Gr.cell HX4.out k17_c10
    have k18_c11 := Gr.cell HX4.out k17_c11
    have k18_c12 := Gr.cell HX4.out k17_c12
    have k18_c20 := Gr.cell HX4.out k17_c20
    have k18_c21 := Gr.cell HX4.out k17_c21
    have k18_c22 := Gr.cell HX4.out k17_c22
    have k18_c90 := Gr.cell HX4.out k17_c90
    have k18_c91 := Gr.cell HX4.out k17_c91
    have k18_c92 := Gr.cell HX4.out k17_c92
    have k18_c80 := Gr.cell HX4.out k17_c80
    have k18_c81 := Gr.cell HX4.out k17_c81
    have k18_c82 := Gr.cell HX4.out k17_c82
    have HG := hid (HG.out.trans HX4.out)
    have HAp := hid (HAp.out.gr HX4.out)
    have HAq := hid (HAq.out.gr HX4.out)
    have HAr := hid (HAr.out.gr HX4.out)
    have HAone := hid (HAone.out.gr HX4.out)
    have HAqt := hid (HAqt.out.gr HX4.out)
    clear k17_c00 k17_c01 k17_c02 k17_c10 k17_c11 k17_c12 k17_c20 k17_c21 k17_c22 k17_c90 k17_c91 k17_c92 k17_c80 k17_c81 k17_c82 HX1 HX2 HX3 HX4
    go_wp2
    go_ret
    exact ⟨rfl, HG.out⟩
  | false =>
    obtain rfl : sb = 0 := by have h := HOK.out; simpa using h
    go_wp2_with fail
    refine (HDV.out w8 _ _ HAp.out HAq.out).mono ?_
    rintro e w9 ⟨v, rfl, h1, hg⟩
    have HX := hid hg
    clear hg
    obtain ⟨A8, l8, c8, B8, m8, e8, rfl, h1⟩ := h1.form
    obtain ⟨s8, hs8⟩ : ∃ b, b = decide ((p / q).num < 0) := ⟨_, rfl⟩
    rw [← hs8] at h1 ⊢
    have HAqt := hid h1
    clear h1 hs8
    have k13_c00 := Gr.cell HX.out k12_c00
    have k13_c01 := Gr.cell HX.out k12_c01
    have k13_c02 := Gr.cell HX.out k12_c02
    have k13_c10 := Gr.cell HX.out k12_c10
    have k13_c11 := Gr.cell HX.out k12_c11
    have k13_c12 := Gr.cell HX.out k12_c12
    have k13_c20 := Gr.cell HX.out k12_c20
    have k13_c21 := Gr.cell HX.out k12_c21
    have k13_c22 := Gr.cell HX.out k12_c22
    have k13_c90 := Gr.cell HX.out k12_c90
    have k13_c91 := Gr.cell HX.out k12_c91
    have k13_c92 := Gr.cell HX.out k12_c92
    have HG := hid (HG.out.trans HX.out)
    have HAp := hid (HAp.out.gr HX.out)
    have HAq := hid (HAq.out.gr HX.out)
    have HAr := hid (HAr.out.gr HX.out)
    have HAone := hid (HAone.out.gr HX.out)
    clear k12_c00 k12_c01 k12_c02 k12_c10 k12_c11 k12_c12 k12_c20 k12_c21 k12_c22 k12_c90 k12_c91 k12_c92 HX
    go_upto_region 13 with (fail)
    obtain ⟨W4, hW⟩ : ∃ V, V = w9.alloc (.cells #[.bool s8, .slice A8 l8 c8, .slice B8 m8 e8] 27) := ⟨_, rfl⟩
    obtain ⟨hg, b1⟩ := al1 w9 #[.bool s8, .slice A8 l8 c8, .slice B8 m8 e8] 27
    rw [← hW] at hg b1 ⊢
    clear hW
    have HX := hid hg
    clear hg
    have HAqt := hid (HAqt.out)
    have k14_c00 := Gr.cell HX.out k13_c00
    have k14_c01 := Gr.cell HX.out k13_c01
    have k14_c02 := Gr.cell HX.out k13_c02
    have k14_c10 := Gr.cell HX.out k13_c10
    have k14_c11 := Gr.cell HX.out k13_c11
    have k14_c12 := Gr.cell HX.out k13_c12
    have k14_c20 := Gr.cell HX.out k13_c20
    have k14_c21 := Gr.cell HX.out k13_c21
    have k14_c22 := Gr.cell HX.out k13_c22
    have k14_c90 := Gr.cell HX.out k13_c90
    have k14_c91 := Gr.cell HX.out k13_c91
    have k14_c92 := Gr.cell HX.out k13_c92
    have HG := hid (HG.out.trans HX.out)
    have HAp := hid (HAp.out.gr HX.out)
    have HAq := hid (HAq.out.gr HX.out)
    have HAr := hid (HAr.out.gr HX.out)
    have HAone := hid (HAone.out.gr HX.out)
    have HAqt := hid (HAqt.out.gr HX.out)
    clear k13_c00 k13_c01 k13_c02 k13_c10 k13_c11 k13_c12 k13_c20 k13_c21 k13_c22 k13_c90 k13_c91 k13_c92 HX
    have n8_c80 : W4.cell? ⟨w9.heap.size, 0, none⟩ = some (.bool s8) := b1.c 0 rfl
    have n8_c81 : W4.cell? ⟨w9.heap.size, 1, none⟩ = some (.slice A8 l8 c8) := b1.c 1 rfl
    have n8_c82 : W4.cell? ⟨w9.heap.size, 2, none⟩ = some (.slice B8 m8 e8) := b1.c 2 rfl
    clear b1
    go_wp2
    refine wp_region_vals [.bool false, .agg #[.bool s1, .slice A1 l1 c1, .slice B1 m1 e1], .int .i64 0, .bool false, .bool false, .bool false, .bool false, .bool false, undef, undef, undef, undef, undef, undef, undef, .bool false, .bool false] (by kernel_rfl) (by kernel_rfl) (by kernel_rfl) (by kernel_rfl) ?_ ?_
    · refine StepsV.cons (StepV.mk fun vs V K hV hd hK => ?_) ?_
      · have v_c00 := Gr.cell hV k14_c00
        have v_c01 := Gr.cell hV k14_c01
        have v_c02 := Gr.cell hV k14_c02
        have v_c10 := Gr.cell hV k14_c10
        have v_c11 := Gr.cell hV k14_c11
        have v_c12 := Gr.cell hV k14_c12
        have v_c20 := Gr.cell hV k14_c20
        have v_c21 := Gr.cell hV k14_c21
        have v_c22 := Gr.cell hV k14_c22
        have v_c90 := Gr.cell hV k14_c90
        have v_c91 := Gr.cell hV k14_c91
        have v_c92 := Gr.cell hV k14_c92
        have v_c80 := Gr.cell hV n8_c80
        have v_c81 := Gr.cell hV n8_c81
        have v_c82 := Gr.cell hV n8_c82
        simp only [puts, Act.put, List.setIfInBounds_toArray, List.set_cons_zero, List.set_cons_succ, List.getD_cons_zero, List.getD_cons_succ] at hK ⊢
        have hK2 := hid hK
        clear hK
        refine ⟨rfl, ?_⟩
        go_simp
        exact hK2.out _ (Gr.refl _)
      refine StepsV.cons (StepV.mk fun vs V K hV hd hK => ?_) ?_
      · have v_c00 := Gr.cell hV k14_c00
        have v_c01 := Gr.cell hV k14_c01
        have v_c02 := Gr.cell hV k14_c02
        have v_c10 := Gr.cell hV k14_c10
        have v_c11 := Gr.cell hV k14_c11
        have v_c12 := Gr.cell hV k14_c12
        have v_c20 := Gr.cell hV k14_c20
        have v_c21 := Gr.cell hV k14_c21
        have v_c22 := Gr.cell hV k14_c22
        have v_c90 := Gr.cell hV k14_c90
        have v_c91 := Gr.cell hV k14_c91
        have v_c92 := Gr.cell hV k14_c92
        have v_c80 := Gr.cell hV n8_c80
        have v_c81 := Gr.cell hV n8_c81
        have v_c82 := Gr.cell hV n8_c82
        simp only [puts, Act.put, List.setIfInBounds_toArray, List.set_cons_zero, List.set_cons_succ, List.getD_cons_zero, List.getD_cons_succ] at hK ⊢
        have hK2 := hid hK
        clear hK
        refine ⟨rfl, ?_⟩
        go_simp
        exact hK2.out _ (Gr.refl _)
      refine StepsV.cons (StepV.mk fun vs V K hV hd hK => ?_) ?_
      · have g1 := hd { on := 1, ground := .data } (by simp) rfl
        try simp only [List.getD_cons_zero, List.getD_cons_succ] at g1
        have v_c00 := Gr.cell hV k14_c00
        have v_c01 := Gr.cell hV k14_c01
        have v_c02 := Gr.cell hV k14_c02
        have v_c10 := Gr.cell hV k14_c10
        have v_c11 := Gr.cell hV k14_c11
        have v_c12 := Gr.cell hV k14_c12
        have v_c20 := Gr.cell hV k14_c20
        have v_c21 := Gr.cell hV k14_c21
        have v_c22 := Gr.cell hV k14_c22
        have v_c90 := Gr.cell hV k14_c90
        have v_c91 := Gr.cell hV k14_c91
        have v_c92 := Gr.cell hV k14_c92
        have v_c80 := Gr.cell hV n8_c80
        have v_c81 := Gr.cell hV n8_c81
        have v_c82 := Gr.cell hV n8_c82
        simp only [puts, Act.put, List.setIfInBounds_toArray, List.set_cons_zero, List.set_cons_succ, List.getD_cons_zero, List.getD_cons_succ, g1] at hK ⊢
        have hK2 := hid hK
        clear hK
        refine ⟨rfl, ?_⟩
        go_simp
        refine (HSB.out V _ (HAq.out.gr hV)).mono ?_
        rintro e w2 ⟨rfl, hg2⟩
        exact hK2.out _ hg2
      refine StepsV.cons (StepV.mk fun vs V K hV hd hK => ?_) ?_
      · have g2 := hd { on := 2, ground := .data } (by simp) rfl
        try simp only [List.getD_cons_zero, List.getD_cons_succ] at g2
        have v_c00 := Gr.cell hV k14_c00
        have v_c01 := Gr.cell hV k14_c01
        have v_c02 := Gr.cell hV k14_c02
        have v_c10 := Gr.cell hV k14_c10
        have v_c11 := Gr.cell hV k14_c11
        have v_c12 := Gr.cell hV k14_c12
        have v_c20 := Gr.cell hV k14_c20
        have v_c21 := Gr.cell hV k14_c21
        have v_c22 := Gr.cell hV k14_c22
        have v_c90 := Gr.cell hV k14_c90
        have v_c91 := Gr.cell hV k14_c91
        have v_c92 := Gr.cell hV k14_c92
        have v_c80 := Gr.cell hV n8_c80
        have v_c81 := Gr.cell hV n8_c81
        have v_c82 := Gr.cell hV n8_c82
        simp only [puts, Act.put, List.setIfInBounds_toArray, List.set_cons_zero, List.set_cons_succ, List.getD_cons_zero, List.getD_cons_succ, g2] at hK ⊢
        have hK2 := hid hK
        clear hK
        refine ⟨rfl, ?_⟩
        go_simp
        exact hK2.out _ (Gr.refl _)
      refine StepsV.cons (StepV.mk fun vs V K hV hd hK => ?_) ?_
      · have g0 := hd { on := 0, ground := .data } (by simp) rfl
        try simp only [List.getD_cons_zero, List.getD_cons_succ] at g0
        have g3 := hd { on := 3, ground := .data } (by simp) rfl
        try simp only [List.getD_cons_zero, List.getD_cons_succ] at g3
        have v_c00 := Gr.cell hV k14_c00
        have v_c01 := Gr.cell hV k14_c01
        have v_c02 := Gr.cell hV k14_c02
        have v_c10 := Gr.cell hV k14_c10
        have v_c11 := Gr.cell hV k14_c11
        have v_c12 := Gr.cell hV k14_c12
        have v_c20 := Gr.cell hV k14_c20
        have v_c21 := Gr.cell hV k14_c21
        have v_c22 := Gr.cell hV k14_c22
        have v_c90 := Gr.cell hV k14_c90
        have v_c91 := Gr.cell hV k14_c91
        have v_c92 := Gr.cell hV k14_c92
        have v_c80 := Gr.cell hV n8_c80
        have v_c81 := Gr.cell hV n8_c81
        have v_c82 := Gr.cell hV n8_c82
        simp only [puts, Act.put, List.setIfInBounds_toArray, List.set_cons_zero, List.set_cons_succ, List.getD_cons_zero, List.getD_cons_succ, g0, g3] at hK ⊢
        have hK2 := hid hK
        clear hK
        refine ⟨rfl, ?_⟩
        go_simp
        exact hK2.out _ (Gr.refl _)
      refine StepsV.cons (StepV.mk fun vs V K hV hd hK => ?_) ?_
      · have g4 := hd { on := 4, ground := .data } (by simp) rfl
        try simp only [List.getD_cons_zero, List.getD_cons_succ] at g4
        have v_c00 := Gr.cell hV k14_c00
        have v_c01 := Gr.cell hV k14_c01
        have v_c02 := Gr.cell hV k14_c02
        have v_c10 := Gr.cell hV k14_c10
        have v_c11 := Gr.cell hV k14_c11
        have v_c12 := Gr.cell hV k14_c12
        have v_c20 := Gr.cell hV k14_c20
        have v_c21 := Gr.cell hV k14_c21
        have v_c22 := Gr.cell hV k14_c22
        have v_c90 := Gr.cell hV k14_c90
        have v_c91 := Gr.cell hV k14_c91
        have v_c92 := Gr.cell hV k14_c92
        have v_c80 := Gr.cell hV n8_c80
        have v_c81 := Gr.cell hV n8_c81
        have v_c82 := Gr.cell hV n8_c82
        simp only [puts, Act.put, List.setIfInBounds_toArray, List.set_cons_zero, List.set_cons_succ, List.getD_cons_zero, List.getD_cons_succ, g4] at hK ⊢
        have hK2 := hid hK
        clear hK
        refine ⟨rfl, ?_⟩
        go_simp
        exact hK2.out _ (Gr.refl _)
      refine StepsV.cons (StepV.mk fun vs V K hV hd hK => ?_) ?_
      · have g5 := hd { on := 5, ground := .guard } (by simp) rfl
        try simp only [List.getD_cons_zero, List.getD_cons_succ] at g5
        have v_c00 := Gr.cell hV k14_c00
        have v_c01 := Gr.cell hV k14_c01
        have v_c02 := Gr.cell hV k14_c02
        have v_c10 := Gr.cell hV k14_c10
        have v_c11 := Gr.cell hV k14_c11
        have v_c12 := Gr.cell hV k14_c12
        have v_c20 := Gr.cell hV k14_c20
        have v_c21 := Gr.cell hV k14_c21
        have v_c22 := Gr.cell hV k14_c22
        have v_c90 := Gr.cell hV k14_c90
        have v_c91 := Gr.cell hV k14_c91
        have v_c92 := Gr.cell hV k14_c92
        have v_c80 := Gr.cell hV n8_c80
        have v_c81 := Gr.cell hV n8_c81
        have v_c82 := Gr.cell hV n8_c82
        simp only [puts, Act.put, List.setIfInBounds_toArray, List.set_cons_zero, List.set_cons_succ, List.getD_cons_zero, List.getD_cons_succ, g5] at hK ⊢
        have hK2 := hid hK
        clear hK
        refine ⟨rfl, ?_⟩
        go_simp
        exact hK2.out _ (Gr.refl _)
      refine StepsV.cons (StepV.mk fun vs V K hV hd hK => ?_) ?_
      · have g6 := hd { on := 6, ground := .data } (by simp) rfl
        try simp only [List.getD_cons_zero, List.getD_cons_succ] at g6
        have g5 := hd { on := 5, ground := .guard } (by simp) rfl
        try simp only [List.getD_cons_zero, List.getD_cons_succ] at g5
        have v_c00 := Gr.cell hV k14_c00
        have v_c01 := Gr.cell hV k14_c01
        have v_c02 := Gr.cell hV k14_c02
        have v_c10 := Gr.cell hV k14_c10
        have v_c11 := Gr.cell hV k14_c11
        have v_c12 := Gr.cell hV k14_c12
        have v_c20 := Gr.cell hV k14_c20
        have v_c21 := Gr.cell hV k14_c21
        have v_c22 := Gr.cell hV k14_c22
        have v_c90 := Gr.cell hV k14_c90
        have v_c91 := Gr.cell hV k14_c91
        have v_c92 := Gr.cell hV k14_c92
        have v_c80 := Gr.cell hV n8_c80
        have v_c81 := Gr.cell hV n8_c81
        have v_c82 := Gr.cell hV n8_c82
        simp only [puts, Act.put, List.setIfInBounds_toArray, List.set_cons_zero, List.set_cons_succ, List.getD_cons_zero, List.getD_cons_succ, g5, g6] at hK ⊢
        have hK2 := hid hK
        clear hK
        refine ⟨rfl, ?_⟩
        go_simp
        exact hK2.out _ (Gr.refl _)
      refine StepsV.cons (StepV.skip (fun vs hd => ?_) rfl) ?_
      · have g7 := hd { on := 7, ground := .guard } (by simp) rfl
        try simp only [List.getD_cons_zero, List.getD_cons_succ] at g7
        simp only [puts, Act.put, List.setIfInBounds_toArray, List.set_cons_zero, List.set_cons_succ, List.getD_cons_zero, List.getD_cons_succ, g7]
        rfl
      refine StepsV.cons (StepV.skip (fun vs hd => ?_) rfl) ?_
      · have g7 := hd { on := 7, ground := .guard } (by simp) rfl
        try simp only [List.getD_cons_zero, List.getD_cons_succ] at g7
        simp only [puts, Act.put, List.setIfInBounds_toArray, List.set_cons_zero, List.set_cons_succ, List.getD_cons_zero, List.getD_cons_succ, g7]
        rfl
      refine StepsV.cons (StepV.skip (fun vs hd => ?_) rfl) ?_
      · have g7 := hd { on := 7, ground := .guard } (by simp) rfl
        try simp only [List.getD_cons_zero, List.getD_cons_succ] at g7
        simp only [puts, Act.put, List.setIfInBounds_toArray, List.set_cons_zero, List.set_cons_succ, List.getD_cons_zero, List.getD_cons_succ, g7]
        rfl
      refine StepsV.cons (StepV.skip (fun vs hd => ?_) rfl) ?_
      · have g7 := hd { on := 7, ground := .guard } (by simp) rfl
        try simp only [List.getD_cons_zero, List.getD_cons_succ] at g7
        simp only [puts, Act.put, List.setIfInBounds_toArray, List.set_cons_zero, List.set_cons_succ, List.getD_cons_zero, List.getD_cons_succ, g7]
        rfl
      refine StepsV.cons (StepV.skip (fun vs hd => ?_) rfl) ?_
      · have g7 := hd { on := 7, ground := .guard } (by simp) rfl
        try simp only [List.getD_cons_zero, List.getD_cons_succ] at g7
        simp only [puts, Act.put, List.setIfInBounds_toArray, List.set_cons_zero, List.set_cons_succ, List.getD_cons_zero, List.getD_cons_succ, g7]
        rfl
      refine StepsV.cons (StepV.skip (fun vs hd => ?_) rfl) ?_
      · have g7 := hd { on := 7, ground := .guard } (by simp) rfl
        try simp only [List.getD_cons_zero, List.getD_cons_succ] at g7
        simp only [puts, Act.put, List.setIfInBounds_toArray, List.set_cons_zero, List.set_cons_succ, List.getD_cons_zero, List.getD_cons_succ, g7]
        rfl
      refine StepsV.cons (StepV.skip (fun vs hd => ?_) rfl) ?_
      · have g7 := hd { on := 7, ground := .guard } (by simp) rfl
        try simp only [List.getD_cons_zero, List.getD_cons_succ] at g7
        simp only [puts, Act.put, List.setIfInBounds_toArray, List.set_cons_zero, List.set_cons_succ, List.getD_cons_zero, List.getD_cons_succ, g7]
        rfl
      refine StepsV.cons (StepV.mk fun vs V K hV hd hK => ?_) ?_
      · have g7 := hd { on := 7, ground := .data } (by simp) rfl
        try simp only [List.getD_cons_zero, List.getD_cons_succ] at g7
        have g14 := hd { on := 14, ground := .data } (by simp) rfl
        try simp only [List.getD_cons_zero, List.getD_cons_succ] at g14
        have g5 := hd { on := 5, ground := .guard } (by simp) rfl
        try simp only [List.getD_cons_zero, List.getD_cons_succ] at g5
        have v_c00 := Gr.cell hV k14_c00
        have v_c01 := Gr.cell hV k14_c01
        have v_c02 := Gr.cell hV k14_c02
        have v_c10 := Gr.cell hV k14_c10
        have v_c11 := Gr.cell hV k14_c11
        have v_c12 := Gr.cell hV k14_c12
        have v_c20 := Gr.cell hV k14_c20
        have v_c21 := Gr.cell hV k14_c21
        have v_c22 := Gr.cell hV k14_c22
        have v_c90 := Gr.cell hV k14_c90
        have v_c91 := Gr.cell hV k14_c91
        have v_c92 := Gr.cell hV k14_c92
        have v_c80 := Gr.cell hV n8_c80
        have v_c81 := Gr.cell hV n8_c81
        have v_c82 := Gr.cell hV n8_c82
        simp only [puts, Act.put, List.setIfInBounds_toArray, List.set_cons_zero, List.set_cons_succ, List.getD_cons_zero, List.getD_cons_succ, g5, g7, g14] at hK ⊢
        have hK2 := hid hK
        clear hK
        refine ⟨rfl, ?_⟩
        go_simp
        exact hK2.out _ (Gr.refl _)
      refine StepsV.cons (StepV.mk fun vs V K hV hd hK => ?_) ?_
      · have g5 := hd { on := 5, ground := .data } (by simp) rfl
        try simp only [List.getD_cons_zero, List.getD_cons_succ] at g5
        have g15 := hd { on := 15, ground := .data } (by simp) rfl
        try simp only [List.getD_cons_zero, List.getD_cons_succ] at g15
        have v_c00 := Gr.cell hV k14_c00
        have v_c01 := Gr.cell hV k14_c01
        have v_c02 := Gr.cell hV k14_c02
        have v_c10 := Gr.cell hV k14_c10
        have v_c11 := Gr.cell hV k14_c11
        have v_c12 := Gr.cell hV k14_c12
        have v_c20 := Gr.cell hV k14_c20
        have v_c21 := Gr.cell hV k14_c21
        have v_c22 := Gr.cell hV k14_c22
        have v_c90 := Gr.cell hV k14_c90
        have v_c91 := Gr.cell hV k14_c91
        have v_c92 := Gr.cell hV k14_c92
        have v_c80 := Gr.cell hV n8_c80
        have v_c81 := Gr.cell hV n8_c81
        have v_c82 := Gr.cell hV n8_c82
        simp only [puts, Act.put, List.setIfInBounds_toArray, List.set_cons_zero, List.set_cons_succ, List.getD_cons_zero, List.getD_cons_succ, g5, g15] at hK ⊢
        have hK2 := hid hK
        clear hK
        refine ⟨rfl, ?_⟩
        go_simp
        exact hK2.out _ (Gr.refl _)
      exact StepsV.nil
    intro w10 hg
    have HX := hid hg
    clear hg
    simp only [puts, Act.put, List.setIfInBounds_toArray, List.set_cons_zero, List.set_cons_succ, List.getD_cons_zero, List.getD_cons_succ]
    have k15_c00 := Gr.cell HX.out k14_c00
    have k15_c01 := Gr.cell HX.out k14_c01
    have k15_c02 := Gr.cell HX.out k14_c02
    have k15_c10 := Gr.cell HX.out k14_c10
    have k15_c11 := Gr.cell HX.out k14_c11
    have k15_c12 := Gr.cell HX.out k14_c12
    have k15_c20 := Gr.cell HX.out k14_c20
    have k15_c21 := Gr.cell HX.out k14_c21
    have k15_c22 := Gr.cell HX.out k14_c22
    have k15_c90 := Gr.cell HX.out k14_c90
    have k15_c91 := Gr.cell HX.out k14_c91
    have k15_c92 := Gr.cell HX.out k14_c92
    have k15_c80 := Gr.cell HX.out n8_c80
    have k15_c81 := Gr.cell HX.out n8_c81
    have k15_c82 := Gr.cell HX.out n8_c82
    have HG := hid (HG.out.trans HX.out)
    have HAp := hid (HAp.out.gr HX.out)
    have HAq := hid (HAq.out.gr HX.out)
    have HAr := hid (HAr.out.gr HX.out)
    have HAone := hid (HAone.out.gr HX.out)
    have HAqt := hid (HAqt.out.gr HX.out)
    clear k14_c00 k14_c01 k14_c02 k14_c10 k14_c11 k14_c12 k14_c20 k14_c21 k14_c22 k14_c90 k14_c91 k14_c92 n8_c80 n8_c81 n8_c82 HX
    go_wp2_with fail
    refine (HCK.out w10 _ _ HAp.out HAq.out).mono ?_
    rintro e w11 ⟨rfl, hg⟩
    have HX := hid hg
    clear hg
    have k16_c00 := Gr.cell HX.out k15_c00
    have k16_c01 := Gr.cell HX.out k15_c01
    have k16_c02 := Gr.cell HX.out k15_c02
    have k16_c10 := Gr.cell HX.out k15_c10
    have k16_c11 := Gr.cell HX.out k15_c11
    have k16_c12 := Gr.cell HX.out k15_c12
    have k16_c20 := Gr.cell HX.out k15_c20
    have k16_c21 := Gr.cell HX.out k15_c21
    have k16_c22 := Gr.cell HX.out k15_c22
    have k16_c90 := Gr.cell HX.out k15_c90
    have k16_c91 := Gr.cell HX.out k15_c91
    have k16_c92 := Gr.cell HX.out k15_c92
    have k16_c80 := Gr.cell HX.out k15_c80
    have k16_c81 := Gr.cell HX.out k15_c81
    have k16_c82 := Gr.cell HX.out k15_c82
    have HG := hid (HG.out.trans HX.out)
    have HAp := hid (HAp.out.gr HX.out)
    have HAq := hid (HAq.out.gr HX.out)
    have HAr := hid (HAr.out.gr HX.out)
    have HAone := hid (HAone.out.gr HX.out)
    have HAqt := hid (HAqt.out.gr HX.out)
    clear k15_c00 k15_c01 k15_c02 k15_c10 k15_c11 k15_c12 k15_c20 k15_c21 k15_c22 k15_c90 k15_c91 k15_c92 k15_c80 k15_c81 k15_c82 HX
    go_wp2
    go_region_held3 (fun V => V.cell? ⟨W.heap.size, 0, none⟩ = some (.bool s0) ∧ V.cell? ⟨W.heap.size, 1, none⟩ = some (.slice A0 l0 c0) ∧ V.cell? ⟨W.heap.size, 2, none⟩ = some (.slice B0 m0 e0) ∧ V.cell? ⟨W.heap.size + 1, 0, none⟩ = some (.bool s1) ∧ V.cell? ⟨W.heap.size + 1, 1, none⟩ = some (.slice A1 l1 c1) ∧ V.cell? ⟨W.heap.size + 1, 2, none⟩ = some (.slice B1 m1 e1) ∧ V.cell? ⟨W.heap.size + 2, 0, none⟩ = some (.bool s2) ∧ V.cell? ⟨W.heap.size + 2, 1, none⟩ = some (.slice A2 l2 c2) ∧ V.cell? ⟨W.heap.size + 2, 2, none⟩ = some (.slice B2 m2 e2) ∧ V.cell? ⟨w4.heap.size, 0, none⟩ = some (.bool s9) ∧ V.cell? ⟨w4.heap.size, 1, none⟩ = some (.slice A9 l9 c9) ∧ V.cell? ⟨w4.heap.size, 2, none⟩ = some (.slice B9 m9 e9) ∧ V.cell? ⟨w9.heap.size, 0, none⟩ = some (.bool s8) ∧ V.cell? ⟨w9.heap.size, 1, none⟩ = some (.slice A8 l8 c8) ∧ V.cell? ⟨w9.heap.size, 2, none⟩ = some (.slice B8 m8 e8))
      (first
        | exact ⟨k16_c00, k16_c01, k16_c02, k16_c10, k16_c11, k16_c12, k16_c20, k16_c21, k16_c22, k16_c90, k16_c91, k16_c92, k16_c80, k16_c81, k16_c82⟩
        | with_reducible exact ⟨Gr.cell HX1.out k16_c00, Gr.cell HX1.out k16_c01, Gr.cell HX1.out k16_c02, Gr.cell HX1.out k16_c10, Gr.cell HX1.out k16_c11, Gr.cell HX1.out k16_c12, Gr.cell HX1.out k16_c20, Gr.cell HX1.out k16_c21, Gr.cell HX1.out k16_c22, Gr.cell HX1.out k16_c90, Gr.cell HX1.out k16_c91, Gr.cell HX1.out k16_c92, Gr.cell HX1.out k16_c80, Gr.cell HX1.out k16_c81, Gr.cell HX1.out k16_c82⟩
        | with_reducible exact ⟨Gr.cell HX2.out k16_c00, Gr.cell HX2.out k16_c01, Gr.cell HX2.out k16_c02, Gr.cell HX2.out k16_c10, Gr.cell HX2.out k16_c11, Gr.cell HX2.out k16_c12, Gr.cell HX2.out k16_c20, Gr.cell HX2.out k16_c21, Gr.cell HX2.out k16_c22, Gr.cell HX2.out k16_c90, Gr.cell HX2.out k16_c91, Gr.cell HX2.out k16_c92, Gr.cell HX2.out k16_c80, Gr.cell HX2.out k16_c81, Gr.cell HX2.out k16_c82⟩
        | with_reducible exact ⟨Gr.cell HX3.out k16_c00, Gr.cell HX3.out k16_c01, Gr.cell HX3.out k16_c02, Gr.cell HX3.out k16_c10, Gr.cell HX3.out k16_c11, Gr.cell HX3.out k16_c12, Gr.cell HX3.out k16_c20, Gr.cell HX3.out k16_c21, Gr.cell HX3.out k16_c22, Gr.cell HX3.out k16_c90, Gr.cell HX3.out k16_c91, Gr.cell HX3.out k16_c92, Gr.cell HX3.out k16_c80, Gr.cell HX3.out k16_c81, Gr.cell HX3.out k16_c82⟩
        | with_reducible exact ⟨Gr.cell HX4.out k16_c00, Gr.cell HX4.out k16_c01, Gr.cell HX4.out k16_c02, Gr.cell HX4.out k16_c10, Gr.cell HX4.out k16_c11, Gr.cell HX4.out k16_c12, Gr.cell HX4.out k16_c20, Gr.cell HX4.out k16_c21, Gr.cell HX4.out k16_c22, Gr.cell HX4.out k16_c90, Gr.cell HX4.out k16_c91, Gr.cell HX4.out k16_c92, Gr.cell HX4.out k16_c80, Gr.cell HX4.out k16_c81, Gr.cell HX4.out k16_c82⟩
        | with_reducible exact ⟨Gr.cell HX5.out k16_c00, Gr.cell HX5.out k16_c01, Gr.cell HX5.out k16_c02, Gr.cell HX5.out k16_c10, Gr.cell HX5.out k16_c11, Gr.cell HX5.out k16_c12, Gr.cell HX5.out k16_c20, Gr.cell HX5.out k16_c21, Gr.cell HX5.out k16_c22, Gr.cell HX5.out k16_c90, Gr.cell HX5.out k16_c91, Gr.cell HX5.out k16_c92, Gr.cell HX5.out k16_c80, Gr.cell HX5.out k16_c81, Gr.cell HX5.out k16_c82⟩
        | with_reducible exact ⟨Gr.cell HX6.out k16_c00, Gr.cell HX6.out k16_c01, Gr.cell HX6.out k16_c02, Gr.cell HX6.out k16_c10, Gr.cell HX6.out k16_c11, Gr.cell HX6.out k16_c12, Gr.cell HX6.out k16_c20, Gr.cell HX6.out k16_c21, Gr.cell HX6.out k16_c22, Gr.cell HX6.out k16_c90, Gr.cell HX6.out k16_c91, Gr.cell HX6.out k16_c92, Gr.cell HX6.out k16_c80, Gr.cell HX6.out k16_c81, Gr.cell HX6.out k16_c82⟩)
      (first
        | (go_at_call 18; refine (HCA.out x5 _ _ (HV4_5.out.aq.le (by decide)) (HV5_5.out.aq.le (by decide))).mono ?_; rintro e w12 ⟨rfl, hg⟩; have HX6 := hid (HX5.out.trans hg); clear hg)
        | (go_at_call 20; refine (radd_c x4 _ _ q r 40 ((HAq.out.gr HX4.out).le (by decide)) ((HAr.out.gr HX4.out).le (by decide)) (by decide) (by decide)).mono ?_; rintro e x5 ⟨g5, rfl, hv, hg⟩; have HX5 := hid (HX4.out.trans hg); have HV5_5 := hid hv; have HV4_5 := hid (HV4_4.out.gr hg); clear hv hg)
        | (go_at_call 20; refine (radd_c x3 _ _ p r 40 ((HAp.out.gr HX3.out).le (by decide)) ((HAr.out.gr HX3.out).le (by decide)) (by decide) (by decide)).mono ?_; rintro e x4 ⟨g4, rfl, hv, hg⟩; have HX4 := hid (HX3.out.trans hg); have HV4_4 := hid hv; clear hv hg)
        | (go_at_call 34; refine (HSD.out x2 _ (HV2_2.out.aq.le (by decide))).mono ?_; rintro e x3 ⟨rfl, hg⟩; have HX3 := hid (HX2.out.trans hg); clear hg)
        | (go_at_call 22; refine (rsub_c x1 _ _ p q 40 ((HAp.out.gr HX1.out).le (by decide)) ((HAq.out.gr HX1.out).le (by decide)) (by decide) (by decide)).mono ?_; rintro e x2 ⟨g2, rfl, hv, hg⟩; have HX2 := hid (HX1.out.trans hg); have HV2_2 := hid hv; clear hv hg)
        | (go_at_call 18; refine (HCK2.out _ _ _ ((HAq.out.gr ((Gr.refl w11).drew)).le (by decide)) ((HAp.out.gr ((Gr.refl w11).drew)).le (by decide))).mono ?_; rintro e x1 ⟨rfl, hg⟩; have HX1 := hid (((Gr.refl w11).drew).trans hg); clear hg))
    have k17_c00 := Gr.cell HX6.out k16_c00
    have k17_c01 := Gr.cell HX6.out k16_c01
    have k17_c02 := Gr.cell HX6.out k16_c02
    have k17_c10 := Gr.cell HX6.out k16_c10
    have k17_c11 := Gr.cell HX6.out k16_c11
    have k17_c12 := Gr.cell HX6.out k16_c12
    have k17_c20 := Gr.cell HX6.out k16_c20
    have k17_c21 := Gr.cell HX6.out k16_c21
    have k17_c22 := Gr.cell HX6.out k16_c22
    have k17_c90 := Gr.cell HX6.out k16_c90
    have k17_c91 := Gr.cell HX6.out k16_c91
    have k17_c92 := Gr.cell HX6.out k16_c92
    have k17_c80 := Gr.cell HX6.out k16_c80
    have k17_c81 := Gr.cell HX6.out k16_c81
    have k17_c82 := Gr.cell HX6.out k16_c82
    have HG := hid (HG.out.trans HX6.out)
    have HAp := hid (HAp.out.gr HX6.out)
    have HAq := hid (HAq.out.gr HX6.out)
    have HAr := hid (HAr.out.gr HX6.out)
    have HAone := hid (HAone.out.gr HX6.out)
    have HAqt := hid (HAqt.out.gr HX6.out)
    clear k16_c00 k16_c01 k16_c02 k16_c10 k16_c11 k16_c12 k16_c20 k16_c21 k16_c22 k16_c90 k16_c91 k16_c92 k16_c80 k16_c81 k16_c82 HX1 HX2 HX3 HX4 HX5 HX6
    go_wp2
    go_region_held3 (fun V => V.cell? ⟨W.heap.size, 0, none⟩ = some (.bool s0) ∧ V.cell? ⟨W.heap.size, 1, none⟩ = some (.slice A0 l0 c0) ∧ V.cell? ⟨W.heap.size, 2, none⟩ = some (.slice B0 m0 e0) ∧ V.cell? ⟨W.heap.size + 1, 0, none⟩ = some (.bool s1) ∧ V.cell? ⟨W.heap.size + 1, 1, none⟩ = some (.slice A1 l1 c1) ∧ V.cell? ⟨W.heap.size + 1, 2, none⟩ = some (.slice B1 m1 e1) ∧ V.cell? ⟨W.heap.size + 2, 0, none⟩ = some (.bool s2) ∧ V.cell? ⟨W.heap.size + 2, 1, none⟩ = some (.slice A2 l2 c2) ∧ V.cell? ⟨W.heap.size + 2, 2, none⟩ = some (.slice B2 m2 e2) ∧ V.cell? ⟨w4.heap.size, 0, none⟩ = some (.bool s9) ∧ V.cell? ⟨w4.heap.size, 1, none⟩ = some (.slice A9 l9 c9) ∧ V.cell? ⟨w4.heap.size, 2, none⟩ = some (.slice B9 m9 e9) ∧ V.cell? ⟨w9.heap.size, 0, none⟩ = some (.bool s8) ∧ V.cell? ⟨w9.heap.size, 1, none⟩ = some (.slice A8 l8 c8) ∧ V.cell? ⟨w9.heap.size, 2, none⟩ = some (.slice B8 m8 e8))
      (first
        | exact ⟨k17_c00, k17_c01, k17_c02, k17_c10, k17_c11, k17_c12, k17_c20, k17_c21, k17_c22, k17_c90, k17_c91, k17_c92, k17_c80, k17_c81, k17_c82⟩
        | with_reducible exact ⟨Gr.cell HX1.out k17_c00, Gr.cell HX1.out k17_c01, Gr.cell HX1.out k17_c02, Gr.cell HX1.out k17_c10, Gr.cell HX1.out k17_c11, Gr.cell HX1.out k17_c12, Gr.cell HX1.out k17_c20, Gr.cell HX1.out k17_c21, Gr.cell HX1.out k17_c22, Gr.cell HX1.out k17_c90, Gr.cell HX1.out k17_c91, Gr.cell HX1.out k17_c92, Gr.cell HX1.out k17_c80, Gr.cell HX1.out k17_c81, Gr.cell HX1.out k17_c82⟩
        | with_reducible exact ⟨Gr.cell HX2.out k17_c00, Gr.cell HX2.out k17_c01, Gr.cell HX2.out k17_c02, Gr.cell HX2.out k17_c10, Gr.cell HX2.out k17_c11, Gr.cell HX2.out k17_c12, Gr.cell HX2.out k17_c20, Gr.cell HX2.out k17_c21, Gr.cell HX2.out k17_c22, Gr.cell HX2.out k17_c90, Gr.cell HX2.out k17_c91, Gr.cell HX2.out k17_c92, Gr.cell HX2.out k17_c80, Gr.cell HX2.out k17_c81, Gr.cell HX2.out k17_c82⟩
        | with_reducible exact ⟨Gr.cell HX3.out k17_c00, Gr.cell HX3.out k17_c01, Gr.cell HX3.out k17_c02, Gr.cell HX3.out k17_c10, Gr.cell HX3.out k17_c11, Gr.cell HX3.out k17_c12, Gr.cell HX3.out k17_c20, Gr.cell HX3.out k17_c21, Gr.cell HX3.out k17_c22, Gr.cell HX3.out k17_c90, Gr.cell HX3.out k17_c91, Gr.cell HX3.out k17_c92, Gr.cell HX3.out k17_c80, Gr.cell HX3.out k17_c81, Gr.cell HX3.out k17_c82⟩
        | with_reducible exact ⟨Gr.cell HX4.out k17_c00, Gr.cell HX4.out k17_c01, Gr.cell HX4.out k17_c02, Gr.cell HX4.out k17_c10, Gr.cell HX4.out k17_c11, Gr.cell HX4.out k17_c12, Gr.cell HX4.out k17_c20, Gr.cell HX4.out k17_c21, Gr.cell HX4.out k17_c22, Gr.cell HX4.out k17_c90, Gr.cell HX4.out k17_c91, Gr.cell HX4.out k17_c92, Gr.cell HX4.out k17_c80, Gr.cell HX4.out k17_c81, Gr.cell HX4.out k17_c82⟩)
      (first
        | (go_at_call 18; refine (HCM.out x3 _ _ (HV2_3.out.aq.le (by decide)) (HV3_3.out.aq.le (by decide))).mono ?_; rintro e w13 ⟨rfl, hg⟩; have HX4 := hid (HX3.out.trans hg); clear hg)
        | (go_at_call 24; refine (rmul_c x2 _ _ q r 40 ((HAq.out.gr HX2.out).le (by decide)) ((HAr.out.gr HX2.out).le (by decide)) (by decide) (by decide)).mono ?_; rintro e x3 ⟨g3, rfl, hv, hg⟩; have HX3 := hid (HX2.out.trans hg); have HV3_3 := hid hv; have HV2_3 := hid (HV2_2.out.gr hg); clear hv hg)
        | (go_at_call 24; refine (rmul_c x1 _ _ p r 40 ((HAp.out.gr HX1.out).le (by decide)) ((HAr.out.gr HX1.out).le (by decide)) (by decide) (by decide)).mono ?_; rintro e x2 ⟨g2, rfl, hv, hg⟩; have HX2 := hid (HX1.out.trans hg); have HV2_2 := hid hv; clear hv hg)
        | (go_at_call 34; refine (HSC.out _ _ ((HAr.out.gr ((Gr.refl w12).drew)).le (by decide))).mono ?_; rintro e x1 ⟨rfl, hg⟩; have HX1 := hid (((Gr.refl w12).drew).trans hg); clear hg))
    have k18_c00 := Gr.cell HX4.out k17_c00
    have k18_c01 := Gr.cell HX4.out k17_c01
    have k18_c02 := Gr.cell HX4.out k17_c02
    have k18_c10 := Gr.cell HX4.out k17_c10
    have k18_c11 := Gr.cell HX4.out k17_c11
    have k18_c12 := Gr.cell HX4.out k17_c12
    have k18_c20 := Gr.cell HX4.out k17_c20
    have k18_c21 := Gr.cell HX4.out k17_c21
    have k18_c22 := Gr.cell HX4.out k17_c22
    have k18_c90 := Gr.cell HX4.out k17_c90
    have k18_c91 := Gr.cell HX4.out k17_c91
    have k18_c92 := Gr.cell HX4.out k17_c92
    have k18_c80 := Gr.cell HX4.out k17_c80
    have k18_c81 := Gr.cell HX4.out k17_c81
    have k18_c82 := Gr.cell HX4.out k17_c82
    have HG := hid (HG.out.trans HX4.out)
    have HAp := hid (HAp.out.gr HX4.out)
    have HAq := hid (HAq.out.gr HX4.out)
    have HAr := hid (HAr.out.gr HX4.out)
    have HAone := hid (HAone.out.gr HX4.out)
    have HAqt := hid (HAqt.out.gr HX4.out)
    clear k17_c00 k17_c01 k17_c02 k17_c10 k17_c11 k17_c12 k17_c20 k17_c21 k17_c22 k17_c90 k17_c91 k17_c92 k17_c80 k17_c81 k17_c82 HX1 HX2 HX3 HX4
    go_wp2
    go_ret
    exact ⟨rfl, HG.out⟩
end Go.Proofs.Ytkbgdiejjabdmaa
