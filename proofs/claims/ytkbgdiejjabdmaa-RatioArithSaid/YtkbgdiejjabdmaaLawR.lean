/- The walk of the law RatioArith. -/
import Derived.Test.YtkbgdiejjabdmaaLawB
import Derived.Test.YtkbgdiejjabdmaaRgG
import Derived.Test.YtkbgdiejjabdmaaAnyV
import Derived.Deep.Cut
import Derived.Deep.RegionHeld3
namespace Go.Proofs.Ytkbgdiejjabdmaa
open Go.RowKit

set_option maxRecDepth 100000 in
set_option maxHeartbeats 16000000 in
theorem ratioarith_law (W : World) {s0 : Bool} {A0 B0 : Option Addr} {l0 c0 m0 e0 n0 k0 : Nat} (hn0 : AN W (.slice A0 l0 c0) n0 l0) (hk0 : AN W (.slice B0 m0 e0) k0 m0) {s1 : Bool} {A1 B1 : Option Addr} {l1 c1 m1 e1 n1 k1 : Nat} (hn1 : AN W (.slice A1 l1 c1) n1 l1) (hk1 : AN W (.slice B1 m1 e1) k1 m1) : Calls Try.prog 5 #[.agg #[.bool s0, .slice A0 l0 c0, .slice B0 m0 e0], .agg #[.bool s1, .slice A1 l1 c1, .slice B1 m1 e1]] W (Is W (.bool true)) := by
  by_cases hlg0 : 40 < l0 ∨ 40 < m0
  · have HLG0 : Hid (∀ V : World, Calls Try.prog 17 #[.agg #[.bool s0, .slice A0 l0 c0, .slice B0 m0 e0]] V (Is V (.bool true))) := fun V => by
      have h := large_c V s0 A0 B0 l0 c0 m0 e0
      rw [show (decide (40 < l0) || decide (40 < m0)) = true by simpa using hlg0] at h
      exact h
    clear hn0 hk0 hn1 hk1 hlg0
    go_enter Try.func5, Try.ntmps5
    go_wp2_with fail
    obtain ⟨W0, hW⟩ : ∃ V, V = (W.alloc (.cells #[.bool s0, .slice A0 l0 c0, .slice B0 m0 e0] 27)).alloc (.cells #[.bool s1, .slice A1 l1 c1, .slice B1 m1 e1] 27) := ⟨_, rfl⟩
    obtain ⟨hg, b0, b1⟩ := al2 W #[.bool s0, .slice A0 l0 c0, .slice B0 m0 e0] #[.bool s1, .slice A1 l1 c1, .slice B1 m1 e1] 27 27
    rw [← hW] at hg b0 b1 ⊢
    clear hW
    have c00 : W0.cell? ⟨W.heap.size, 0, none⟩ = some (.bool s0) := b0.c 0 rfl
    have c01 : W0.cell? ⟨W.heap.size, 1, none⟩ = some (.slice A0 l0 c0) := b0.c 1 rfl
    have c02 : W0.cell? ⟨W.heap.size, 2, none⟩ = some (.slice B0 m0 e0) := b0.c 2 rfl
    have c10 : W0.cell? ⟨W.heap.size + 1, 0, none⟩ = some (.bool s1) := b1.c 0 rfl
    have c11 : W0.cell? ⟨W.heap.size + 1, 1, none⟩ = some (.slice A1 l1 c1) := b1.c 1 rfl
    have c12 : W0.cell? ⟨W.heap.size + 1, 2, none⟩ = some (.slice B1 m1 e1) := b1.c 2 rfl
    have HG := hid hg
    clear hg b0 b1
    refine (HLG0.out W0).mono ?_
    rintro e L0 ⟨rfl, hg⟩
    have HX := hid hg
    clear hg
    have HG := hid (HG.out.trans HX.out)
    clear HX
    go_wp2
    go_ret
    exact ⟨rfl, HG.out⟩
  by_cases hlg1 : 40 < l1 ∨ 40 < m1
  · have HLG0 : Hid (∀ V : World, Calls Try.prog 17 #[.agg #[.bool s0, .slice A0 l0 c0, .slice B0 m0 e0]] V (Is V (.bool false))) := fun V => by
      have h := large_c V s0 A0 B0 l0 c0 m0 e0
      rw [show (decide (40 < l0) || decide (40 < m0)) = false by simp; omega] at h
      exact h
    have HLG1 : Hid (∀ V : World, Calls Try.prog 17 #[.agg #[.bool s1, .slice A1 l1 c1, .slice B1 m1 e1]] V (Is V (.bool true))) := fun V => by
      have h := large_c V s1 A1 B1 l1 c1 m1 e1
      rw [show (decide (40 < l1) || decide (40 < m1)) = true by simpa using hlg1] at h
      exact h
    clear hn0 hk0 hn1 hk1 hlg0 hlg1
    go_enter Try.func5, Try.ntmps5
    go_wp2_with fail
    obtain ⟨W0, hW⟩ : ∃ V, V = (W.alloc (.cells #[.bool s0, .slice A0 l0 c0, .slice B0 m0 e0] 27)).alloc (.cells #[.bool s1, .slice A1 l1 c1, .slice B1 m1 e1] 27) := ⟨_, rfl⟩
    obtain ⟨hg, b0, b1⟩ := al2 W #[.bool s0, .slice A0 l0 c0, .slice B0 m0 e0] #[.bool s1, .slice A1 l1 c1, .slice B1 m1 e1] 27 27
    rw [← hW] at hg b0 b1 ⊢
    clear hW
    have c00 : W0.cell? ⟨W.heap.size, 0, none⟩ = some (.bool s0) := b0.c 0 rfl
    have c01 : W0.cell? ⟨W.heap.size, 1, none⟩ = some (.slice A0 l0 c0) := b0.c 1 rfl
    have c02 : W0.cell? ⟨W.heap.size, 2, none⟩ = some (.slice B0 m0 e0) := b0.c 2 rfl
    have c10 : W0.cell? ⟨W.heap.size + 1, 0, none⟩ = some (.bool s1) := b1.c 0 rfl
    have c11 : W0.cell? ⟨W.heap.size + 1, 1, none⟩ = some (.slice A1 l1 c1) := b1.c 1 rfl
    have c12 : W0.cell? ⟨W.heap.size + 1, 2, none⟩ = some (.slice B1 m1 e1) := b1.c 2 rfl
    have HG := hid hg
    clear hg b0 b1
    refine (HLG0.out W0).mono ?_
    rintro e L0 ⟨rfl, hg⟩
    have HX := hid hg
    clear hg
    have k1_c00 := Gr.cell HX.out c00
    have k1_c01 := Gr.cell HX.out c01
    have k1_c02 := Gr.cell HX.out c02
    have k1_c10 := Gr.cell HX.out c10
    have k1_c11 := Gr.cell HX.out c11
    have k1_c12 := Gr.cell HX.out c12
    have HG := hid (HG.out.trans HX.out)
    clear c00 c01 c02 c10 c11 c12 HX
    go_wp2_with fail
    refine (HLG1.out L0).mono ?_
    rintro e L1 ⟨rfl, hg⟩
    have HX := hid hg
    clear hg
    have HG := hid (HG.out.trans HX.out)
    clear HX
    go_wp2
    go_ret
    exact ⟨rfl, HG.out⟩
  have HLG0 : Hid (∀ V : World, Calls Try.prog 17 #[.agg #[.bool s0, .slice A0 l0 c0, .slice B0 m0 e0]] V (Is V (.bool false))) := fun V => by
    have h := large_c V s0 A0 B0 l0 c0 m0 e0
    rw [show (decide (40 < l0) || decide (40 < m0)) = false by simp; omega] at h
    exact h
  have HLG1 : Hid (∀ V : World, Calls Try.prog 17 #[.agg #[.bool s1, .slice A1 l1 c1, .slice B1 m1 e1]] V (Is V (.bool false))) := fun V => by
    have h := large_c V s1 A1 B1 l1 c1 m1 e1
    rw [show (decide (40 < l1) || decide (40 < m1)) = false by simp; omega] at h
    exact h
  obtain ⟨p, hq0⟩ : ∃ q, q = mkRat (sgnd s0 n0) k0 := ⟨_, rfl⟩
  have HAp : Hid (AQ W (.agg #[.bool s0, .slice A0 l0 c0, .slice B0 m0 e0]) p 40) := ⟨s0, _, _, n0, k0, rfl, hn0.le (by omega), hk0.le (by omega), hq0⟩
  obtain ⟨q, hq1⟩ : ∃ q, q = mkRat (sgnd s1 n1) k1 := ⟨_, rfl⟩
  have HAq : Hid (AQ W (.agg #[.bool s1, .slice A1 l1 c1, .slice B1 m1 e1]) q 40) := ⟨s1, _, _, n1, k1, rfl, hn1.le (by omega), hk1.le (by omega), hq1⟩
  clear hlg0 hq0 hn0 hk0 n0 k0 hlg1 hq1 hn1 hk1 n1 k1
  have HS0 : Hid (∀ (V : World) (b1 b2 : Nat) (u v : Value), VQ V b1 u (p + q) 81 → VQ V b2 v (p + q) 81 → Calls Try.prog 12 #[u, v] V (Is V (.bool true))) := fun V b1 b2 u v h1 h2 => by
    have h := same_c V b1 b2 u v _ _ 81 h1 h2 (by decide)
    rw [decide_eq_true rfl] at h
    exact h
  have HS1 : Hid (∀ (V : World) (b1 b2 : Nat) (u v : Value), VQ V b1 u (p - q) 81 → VQ V b2 v (p - q) 81 → Calls Try.prog 12 #[u, v] V (Is V (.bool true))) := fun V b1 b2 u v h1 h2 => by
    have h := same_c V b1 b2 u v _ _ 81 h1 h2 (by decide)
    rw [decide_eq_true rfl] at h
    exact h
  have HS2 : Hid (∀ (V : World) (b1 b2 : Nat) (u v : Value), VQ V b1 u (p * q) 81 → VQ V b2 v (p * q) 81 → Calls Try.prog 12 #[u, v] V (Is V (.bool true))) := fun V b1 b2 u v h1 h2 => by
    have h := same_c V b1 b2 u v _ _ 81 h1 h2 (by decide)
    rw [decide_eq_true rfl] at h
    exact h
  have HS3 : Hid (∀ (V : World) (b1 b2 : Nat) (u v : Value), VQ V b1 u (p / q) 81 → VQ V b2 v (p / q) 81 → Calls Try.prog 12 #[u, v] V (Is V (.bool true))) := fun V b1 b2 u v h1 h2 => by
    have h := same_c V b1 b2 u v _ _ 81 h1 h2 (by decide)
    rw [decide_eq_true rfl] at h
    exact h
  obtain ⟨k, hk⟩ : ∃ k, k = cmpQ p q := ⟨_, rfl⟩
  obtain ⟨ok, hok⟩ : ∃ o, o = decide (q ≠ 0) := ⟨_, rfl⟩
  have HCK : Hid (∀ (V : World) (u v : Value), AQ V u p 40 → AQ V v q 40 → Calls Try.prog 18 #[u, v] V (Is V (.int .i64 k))) := fun V u v h1 h2 => by
    have h := rcmp_c V u v p q 40 h1 h2 (by decide) (by decide)
    rwa [← hk] at h
  have HCX : Hid (∀ (V : World) (u v : Value), AQ V u p 40 → AQ V v q 40 → Calls Try.prog 19 #[u, v] V (Is V (.int .i64 k))) := fun V u v h1 h2 => by
    have h := xrcmp_c V u v p q 40 h1 h2 (by decide) (by decide)
    rwa [← hk] at h
  have HDV : Hid (∀ (V : World) (u v : Value), AQ V u p 40 → AQ V v q 40 → Calls Try.prog 26 #[u, v] V (RetB V ok fun v w' => VQ w' V.heap.size v (p / q) 80)) := fun V u v h1 h2 => by
    have h := rdiv_c V u v p q 40 h1 h2 (by decide) (by decide)
    rwa [← hok] at h
  have HDX : Hid (∀ (V : World) (u v : Value), AQ V u p 40 → AQ V v q 40 → Calls Try.prog 27 #[u, v] V (RetB V ok fun v w' => VQ w' V.heap.size v (p / q) 81)) := fun V u v h1 h2 => by
    have h := xrdiv_c V u v p q 40 h1 h2 (by decide) (by decide)
    rwa [← hok] at h
  clear hk hok
  go_enter Try.func5, Try.ntmps5
  go_wp2_with fail
  obtain ⟨W0, hW⟩ : ∃ V, V = (W.alloc (.cells #[.bool s0, .slice A0 l0 c0, .slice B0 m0 e0] 27)).alloc (.cells #[.bool s1, .slice A1 l1 c1, .slice B1 m1 e1] 27) := ⟨_, rfl⟩
  obtain ⟨hg, b0, b1⟩ := al2 W #[.bool s0, .slice A0 l0 c0, .slice B0 m0 e0] #[.bool s1, .slice A1 l1 c1, .slice B1 m1 e1] 27 27
  rw [← hW] at hg b0 b1 ⊢
  clear hW
  have c00 : W0.cell? ⟨W.heap.size, 0, none⟩ = some (.bool s0) := b0.c 0 rfl
  have c01 : W0.cell? ⟨W.heap.size, 1, none⟩ = some (.slice A0 l0 c0) := b0.c 1 rfl
  have c02 : W0.cell? ⟨W.heap.size, 2, none⟩ = some (.slice B0 m0 e0) := b0.c 2 rfl
  have c10 : W0.cell? ⟨W.heap.size + 1, 0, none⟩ = some (.bool s1) := b1.c 0 rfl
  have c11 : W0.cell? ⟨W.heap.size + 1, 1, none⟩ = some (.slice A1 l1 c1) := b1.c 1 rfl
  have c12 : W0.cell? ⟨W.heap.size + 1, 2, none⟩ = some (.slice B1 m1 e1) := b1.c 2 rfl
  have HAp := hid (HAp.out.gr hg)
  have HAq := hid (HAq.out.gr hg)
  have HG := hid hg
  clear hg b0 b1
  refine (HLG0.out W0).mono ?_
  rintro e L0 ⟨rfl, hg⟩
  have HX := hid hg
  clear hg
  have k2_c00 := Gr.cell HX.out c00
  have k2_c01 := Gr.cell HX.out c01
  have k2_c02 := Gr.cell HX.out c02
  have k2_c10 := Gr.cell HX.out c10
  have k2_c11 := Gr.cell HX.out c11
  have k2_c12 := Gr.cell HX.out c12
  have HG := hid (HG.out.trans HX.out)
  have HAp := hid (HAp.out.gr HX.out)
  have HAq := hid (HAq.out.gr HX.out)
  clear c00 c01 c02 c10 c11 c12 HX
  go_wp2_with fail
  refine (HLG1.out L0).mono ?_
  rintro e L1 ⟨rfl, hg⟩
  have HX := hid hg
  clear hg
  have k3_c00 := Gr.cell HX.out k2_c00
  have k3_c01 := Gr.cell HX.out k2_c01
  have k3_c02 := Gr.cell HX.out k2_c02
  have k3_c10 := Gr.cell HX.out k2_c10
  have k3_c11 := Gr.cell HX.out k2_c11
  have k3_c12 := Gr.cell HX.out k2_c12
  have HG := hid (HG.out.trans HX.out)
  have HAp := hid (HAp.out.gr HX.out)
  have HAq := hid (HAq.out.gr HX.out)
  clear k2_c00 k2_c01 k2_c02 k2_c10 k2_c11 k2_c12 HX
  go_wp2
  go_region_held3 (fun V => V.cell? ⟨W.heap.size, 0, none⟩ = some (.bool s0) ∧ V.cell? ⟨W.heap.size, 1, none⟩ = some (.slice A0 l0 c0) ∧ V.cell? ⟨W.heap.size, 2, none⟩ = some (.slice B0 m0 e0) ∧ V.cell? ⟨W.heap.size + 1, 0, none⟩ = some (.bool s1) ∧ V.cell? ⟨W.heap.size + 1, 1, none⟩ = some (.slice A1 l1 c1) ∧ V.cell? ⟨W.heap.size + 1, 2, none⟩ = some (.slice B1 m1 e1))
    (first
      | exact ⟨k3_c00, k3_c01, k3_c02, k3_c10, k3_c11, k3_c12⟩
      | with_reducible exact ⟨Gr.cell HX1.out k3_c00, Gr.cell HX1.out k3_c01, Gr.cell HX1.out k3_c02, Gr.cell HX1.out k3_c10, Gr.cell HX1.out k3_c11, Gr.cell HX1.out k3_c12⟩
      | with_reducible exact ⟨Gr.cell HX2.out k3_c00, Gr.cell HX2.out k3_c01, Gr.cell HX2.out k3_c02, Gr.cell HX2.out k3_c10, Gr.cell HX2.out k3_c11, Gr.cell HX2.out k3_c12⟩
      | with_reducible exact ⟨Gr.cell HX3.out k3_c00, Gr.cell HX3.out k3_c01, Gr.cell HX3.out k3_c02, Gr.cell HX3.out k3_c10, Gr.cell HX3.out k3_c11, Gr.cell HX3.out k3_c12⟩
      | with_reducible exact ⟨Gr.cell HX4.out k3_c00, Gr.cell HX4.out k3_c01, Gr.cell HX4.out k3_c02, Gr.cell HX4.out k3_c10, Gr.cell HX4.out k3_c11, Gr.cell HX4.out k3_c12⟩
      | with_reducible exact ⟨Gr.cell HX5.out k3_c00, Gr.cell HX5.out k3_c01, Gr.cell HX5.out k3_c02, Gr.cell HX5.out k3_c10, Gr.cell HX5.out k3_c11, Gr.cell HX5.out k3_c12⟩)
    (first
      | (go_at_call 12; refine (HS0.out x4 _ _ _ _ (HV3_4.out.le (by decide)) (HV4_4.out.le (by decide))).mono ?_; rintro e w5 ⟨rfl, hg⟩; have HX5 := hid (HX4.out.trans hg); clear hg)
      | (go_at_call 21; refine (xradd_c x3 _ _ p q 40 ((HAp.out.gr HX3.out).le (by decide)) ((HAq.out.gr HX3.out).le (by decide)) (by decide) (by decide)).mono ?_; rintro e x4 ⟨g4, rfl, hv, hg⟩; have HX4 := hid (HX3.out.trans hg); have HV4_4 := hid hv; have HV3_4 := hid (HV3_3.out.gr hg); clear hv hg)
      | (go_at_call 20; refine (radd_c x2 _ _ p q 40 ((HAp.out.gr HX2.out).le (by decide)) ((HAq.out.gr HX2.out).le (by decide)) (by decide) (by decide)).mono ?_; rintro e x3 ⟨g3, rfl, hv, hg⟩; have HX3 := hid (HX2.out.trans hg); have HV3_3 := hid hv; clear hv hg)
      | (go_at_call 19; refine (HCX.out x1 _ _ ((HAp.out.gr HX1.out).le (by decide)) ((HAq.out.gr HX1.out).le (by decide))).mono ?_; rintro e x2 ⟨rfl, hg⟩; have HX2 := hid (HX1.out.trans hg); clear hg)
      | (go_at_call 18; refine (HCK.out _ _ _ ((HAp.out.gr ((Gr.refl L1).drew)).le (by decide)) ((HAq.out.gr ((Gr.refl L1).drew)).le (by decide))).mono ?_; rintro e x1 ⟨rfl, hg⟩; have HX1 := hid (((Gr.refl L1).drew).trans hg); clear hg))
  have k4_c00 := Gr.cell HX5.out k3_c00
  have k4_c01 := Gr.cell HX5.out k3_c01
  have k4_c02 := Gr.cell HX5.out k3_c02
  have k4_c10 := Gr.cell HX5.out k3_c10
  have k4_c11 := Gr.cell HX5.out k3_c11
  have k4_c12 := Gr.cell HX5.out k3_c12
  have HG := hid (HG.out.trans HX5.out)
  have HAp := hid (HAp.out.gr HX5.out)
  have HAq := hid (HAq.out.gr HX5.out)
  clear k3_c00 k3_c01 k3_c02 k3_c10 k3_c11 k3_c12 HX1 HX2 HX3 HX4 HX5
  go_wp2
  go_region_held3 (fun V => V.cell? ⟨W.heap.size, 0, none⟩ = some (.bool s0) ∧ V.cell? ⟨W.heap.size, 1, none⟩ = some (.slice A0 l0 c0) ∧ V.cell? ⟨W.heap.size, 2, none⟩ = some (.slice B0 m0 e0) ∧ V.cell? ⟨W.heap.size + 1, 0, none⟩ = some (.bool s1) ∧ V.cell? ⟨W.heap.size + 1, 1, none⟩ = some (.slice A1 l1 c1) ∧ V.cell? ⟨W.heap.size + 1, 2, none⟩ = some (.slice B1 m1 e1))
    (first
      | exact ⟨k4_c00, k4_c01, k4_c02, k4_c10, k4_c11, k4_c12⟩
      | with_reducible exact ⟨Gr.cell HX1.out k4_c00, Gr.cell HX1.out k4_c01, Gr.cell HX1.out k4_c02, Gr.cell HX1.out k4_c10, Gr.cell HX1.out k4_c11, Gr.cell HX1.out k4_c12⟩
      | with_reducible exact ⟨Gr.cell HX2.out k4_c00, Gr.cell HX2.out k4_c01, Gr.cell HX2.out k4_c02, Gr.cell HX2.out k4_c10, Gr.cell HX2.out k4_c11, Gr.cell HX2.out k4_c12⟩
      | with_reducible exact ⟨Gr.cell HX3.out k4_c00, Gr.cell HX3.out k4_c01, Gr.cell HX3.out k4_c02, Gr.cell HX3.out k4_c10, Gr.cell HX3.out k4_c11, Gr.cell HX3.out k4_c12⟩
      | with_reducible exact ⟨Gr.cell HX4.out k4_c00, Gr.cell HX4.out k4_c01, Gr.cell HX4.out k4_c02, Gr.cell HX4.out k4_c10, Gr.cell HX4.out k4_c11, Gr.cell HX4.out k4_c12⟩
      | with_reducible exact ⟨Gr.cell HX5.out k4_c00, Gr.cell HX5.out k4_c01, Gr.cell HX5.out k4_c02, Gr.cell HX5.out k4_c10, Gr.cell HX5.out k4_c11, Gr.cell HX5.out k4_c12⟩
      | with_reducible exact ⟨Gr.cell HX6.out k4_c00, Gr.cell HX6.out k4_c01, Gr.cell HX6.out k4_c02, Gr.cell HX6.out k4_c10, Gr.cell HX6.out k4_c11, Gr.cell HX6.out k4_c12⟩)
    (first
      | (go_at_call 12; refine (HS2.out x5 _ _ _ _ (HV4_5.out.le (by decide)) (HV5_5.out.le (by decide))).mono ?_; rintro e w6 ⟨rfl, hg⟩; have HX6 := hid (HX5.out.trans hg); clear hg)
      | (go_at_call 25; refine (xrmul_c x4 _ _ p q 40 ((HAp.out.gr HX4.out).le (by decide)) ((HAq.out.gr HX4.out).le (by decide)) (by decide) (by decide)).mono ?_; rintro e x5 ⟨g5, rfl, hv, hg⟩; have HX5 := hid (HX4.out.trans hg); have HV5_5 := hid hv; have HV4_5 := hid (HV4_4.out.gr hg); clear hv hg)
      | (go_at_call 24; refine (rmul_c x3 _ _ p q 40 ((HAp.out.gr HX3.out).le (by decide)) ((HAq.out.gr HX3.out).le (by decide)) (by decide) (by decide)).mono ?_; rintro e x4 ⟨g4, rfl, hv, hg⟩; have HX4 := hid (HX3.out.trans hg); have HV4_4 := hid hv; clear hv hg)
      | (go_at_call 12; refine (HS1.out x2 _ _ _ _ (HV1_2.out.le (by decide)) (HV2_2.out.le (by decide))).mono ?_; rintro e x3 ⟨rfl, hg⟩; have HX3 := hid (HX2.out.trans hg); clear hg)
      | (go_at_call 23; refine (xrsub_c x1 _ _ p q 40 ((HAp.out.gr HX1.out).le (by decide)) ((HAq.out.gr HX1.out).le (by decide)) (by decide) (by decide)).mono ?_; rintro e x2 ⟨g2, rfl, hv, hg⟩; have HX2 := hid (HX1.out.trans hg); have HV2_2 := hid hv; have HV1_2 := hid (HV1_1.out.gr hg); clear hv hg)
      | (go_at_call 22; refine (rsub_c _ _ _ p q 40 ((HAp.out.gr ((Gr.refl w5).drew)).le (by decide)) ((HAq.out.gr ((Gr.refl w5).drew)).le (by decide)) (by decide) (by decide)).mono ?_; rintro e x1 ⟨g1, rfl, hv, hg⟩; have HX1 := hid (((Gr.refl w5).drew).trans hg); have HV1_1 := hid hv; clear hv hg))
  have k5_c00 := Gr.cell HX6.out k4_c00
  have k5_c01 := Gr.cell HX6.out k4_c01
  have k5_c02 := Gr.cell HX6.out k4_c02
  have k5_c10 := Gr.cell HX6.out k4_c10
  have k5_c11 := Gr.cell HX6.out k4_c11
  have k5_c12 := Gr.cell HX6.out k4_c12
  have HG := hid (HG.out.trans HX6.out)
  have HAp := hid (HAp.out.gr HX6.out)
  have HAq := hid (HAq.out.gr HX6.out)
  clear k4_c00 k4_c01 k4_c02 k4_c10 k4_c11 k4_c12 HX1 HX2 HX3 HX4 HX5 HX6
  go_wp2_with fail
  refine (HDV.out w6 _ _ HAp.out HAq.out).mono ?_
  rintro e w8 ⟨v, rfl, h1, hg⟩
  have HX := hid hg
  clear hg
  obtain ⟨A8, l8, c8, B8, m8, e8, rfl, h1⟩ := h1.form
  obtain ⟨s8, hs⟩ : ∃ b, b = decide ((p / q).num < 0) := ⟨_, rfl⟩
  rw [← hs] at h1 ⊢
  have HAqt := hid h1
  clear h1 hs
  have k6_c00 := Gr.cell HX.out k5_c00
  have k6_c01 := Gr.cell HX.out k5_c01
  have k6_c02 := Gr.cell HX.out k5_c02
  have k6_c10 := Gr.cell HX.out k5_c10
  have k6_c11 := Gr.cell HX.out k5_c11
  have k6_c12 := Gr.cell HX.out k5_c12
  have HG := hid (HG.out.trans HX.out)
  have HAp := hid (HAp.out.gr HX.out)
  have HAq := hid (HAq.out.gr HX.out)
  clear k5_c00 k5_c01 k5_c02 k5_c10 k5_c11 k5_c12 HX
  go_upto_region 8 with (fail)
  obtain ⟨W8, hW⟩ : ∃ V, V = w8.alloc (.cells #[.bool s8, .slice A8 l8 c8, .slice B8 m8 e8] 27) := ⟨_, rfl⟩
  obtain ⟨hg, b1⟩ := al1 w8 #[.bool s8, .slice A8 l8 c8, .slice B8 m8 e8] 27
  rw [← hW] at hg b1 ⊢
  clear hW
  have HX := hid hg
  clear hg
  have HAqt := hid (HAqt.out)
  have k7_c00 := Gr.cell HX.out k6_c00
  have k7_c01 := Gr.cell HX.out k6_c01
  have k7_c02 := Gr.cell HX.out k6_c02
  have k7_c10 := Gr.cell HX.out k6_c10
  have k7_c11 := Gr.cell HX.out k6_c11
  have k7_c12 := Gr.cell HX.out k6_c12
  have HG := hid (HG.out.trans HX.out)
  have HAp := hid (HAp.out.gr HX.out)
  have HAq := hid (HAq.out.gr HX.out)
  have HAqt := hid (HAqt.out.gr HX.out)
  clear k6_c00 k6_c01 k6_c02 k6_c10 k6_c11 k6_c12 HX
  have n8_c80 : W8.cell? ⟨w8.heap.size, 0, none⟩ = some (.bool s8) := b1.c 0 rfl
  have n8_c81 : W8.cell? ⟨w8.heap.size, 1, none⟩ = some (.slice A8 l8 c8) := b1.c 1 rfl
  have n8_c82 : W8.cell? ⟨w8.heap.size, 2, none⟩ = some (.slice B8 m8 e8) := b1.c 2 rfl
  clear b1
  go_wp2_with fail
  refine (HDX.out W8 _ _ HAp.out HAq.out).mono ?_
  rintro e w9 ⟨v, rfl, h1, hg⟩
  have HX := hid hg
  clear hg
  obtain ⟨A9, l9, c9, B9, m9, e9, rfl, h1⟩ := h1.form
  obtain ⟨s9, hs⟩ : ∃ b, b = decide ((p / q).num < 0) := ⟨_, rfl⟩
  rw [← hs] at h1 ⊢
  have HAqx := hid h1
  clear h1 hs
  have k8_c00 := Gr.cell HX.out k7_c00
  have k8_c01 := Gr.cell HX.out k7_c01
  have k8_c02 := Gr.cell HX.out k7_c02
  have k8_c10 := Gr.cell HX.out k7_c10
  have k8_c11 := Gr.cell HX.out k7_c11
  have k8_c12 := Gr.cell HX.out k7_c12
  have k8_c80 := Gr.cell HX.out n8_c80
  have k8_c81 := Gr.cell HX.out n8_c81
  have k8_c82 := Gr.cell HX.out n8_c82
  have HG := hid (HG.out.trans HX.out)
  have HAp := hid (HAp.out.gr HX.out)
  have HAq := hid (HAq.out.gr HX.out)
  have HAqt := hid (HAqt.out.gr HX.out)
  clear k7_c00 k7_c01 k7_c02 k7_c10 k7_c11 k7_c12 n8_c80 n8_c81 n8_c82 HX
  go_upto_region 9 with (fail)
  obtain ⟨W9, hW⟩ : ∃ V, V = w9.alloc (.cells #[.bool s9, .slice A9 l9 c9, .slice B9 m9 e9] 27) := ⟨_, rfl⟩
  obtain ⟨hg, b1⟩ := al1 w9 #[.bool s9, .slice A9 l9 c9, .slice B9 m9 e9] 27
  rw [← hW] at hg b1 ⊢
  clear hW
  have HX := hid hg
  clear hg
  have HAqx := hid (HAqx.out)
  have k9_c00 := Gr.cell HX.out k8_c00
  have k9_c01 := Gr.cell HX.out k8_c01
  have k9_c02 := Gr.cell HX.out k8_c02
  have k9_c10 := Gr.cell HX.out k8_c10
  have k9_c11 := Gr.cell HX.out k8_c11
  have k9_c12 := Gr.cell HX.out k8_c12
  have k9_c80 := Gr.cell HX.out k8_c80
  have k9_c81 := Gr.cell HX.out k8_c81
  have k9_c82 := Gr.cell HX.out k8_c82
  have HG := hid (HG.out.trans HX.out)
  have HAp := hid (HAp.out.gr HX.out)
  have HAq := hid (HAq.out.gr HX.out)
  have HAqt := hid (HAqt.out.gr HX.out)
  have HAqx := hid (HAqx.out.gr HX.out)
  clear k8_c00 k8_c01 k8_c02 k8_c10 k8_c11 k8_c12 k8_c80 k8_c81 k8_c82 HX
  have n9_c90 : W9.cell? ⟨w9.heap.size, 0, none⟩ = some (.bool s9) := b1.c 0 rfl
  have n9_c91 : W9.cell? ⟨w9.heap.size, 1, none⟩ = some (.slice A9 l9 c9) := b1.c 1 rfl
  have n9_c92 : W9.cell? ⟨w9.heap.size, 2, none⟩ = some (.slice B9 m9 e9) := b1.c 2 rfl
  clear b1
  go_wp2_with fail
  refine (HS3.out W9 _ _ _ _ (HAqt.out.le (by decide)) HAqx.out).mono ?_
  rintro e w10 ⟨rfl, hg⟩
  have HX := hid hg
  clear hg
  have HG := hid (HG.out.trans HX.out)
  go_wp2
  go_ret
  exact ⟨rfl, HG.out⟩
end Go.Proofs.Ytkbgdiejjabdmaa
