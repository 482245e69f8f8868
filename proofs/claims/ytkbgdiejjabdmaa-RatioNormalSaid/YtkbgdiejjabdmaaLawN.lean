/- The walk of the law RatioNormal. -/
import Derived.Test.YtkbgdiejjabdmaaLawB
import Derived.Test.YtkbgdiejjabdmaaRatL
import Derived.Test.YtkbgdiejjabdmaaBoxR
import Derived.Test.YtkbgdiejjabdmaaAnyV
import Derived.Deep.CutRange
import Derived.Deep.RegionHeld3
namespace Go.Proofs.Ytkbgdiejjabdmaa
open Go.RowKit

set_option maxRecDepth 100000 in
set_option maxHeartbeats 16000000 in
theorem rationormal_law (W : World) {s0 : Bool} {A0 B0 : Option Addr} {l0 c0 m0 e0 n0 k0 : Nat} (hn0 : AN W (.slice A0 l0 c0) n0 l0) (hk0 : AN W (.slice B0 m0 e0) k0 m0) {s1 : Bool} {A1 B1 : Option Addr} {l1 c1 m1 e1 n1 k1 : Nat} (hn1 : AN W (.slice A1 l1 c1) n1 l1) (hk1 : AN W (.slice B1 m1 e1) k1 m1) : Calls Try.prog 7 #[.agg #[.bool s0, .slice A0 l0 c0, .slice B0 m0 e0], .agg #[.bool s1, .slice A1 l1 c1, .slice B1 m1 e1]] W (Is W (.bool true)) := by
  by_cases hlg0 : 40 < l0 ∨ 40 < m0
  · have HLG0 : Hid (∀ V : World, Calls Try.prog 17 #[.agg #[.bool s0, .slice A0 l0 c0, .slice B0 m0 e0]] V (Is V (.bool true))) := fun V => by
      have h := large_c V s0 A0 B0 l0 c0 m0 e0
      rw [show (decide (40 < l0) || decide (40 < m0)) = true by simpa using hlg0] at h
      exact h
    clear hn0 hk0 hn1 hk1 hlg0
    go_enter Try.func7, Try.ntmps7
    go_wp2_with fail
    obtain ⟨W0, hW⟩ : ∃ V, V = (W.alloc (.cells #[.bool s0, .slice A0 l0 c0, .slice B0 m0 e0] 27)).alloc (.cells #[.bool s1, .slice A1 l1 c1, .slice B1 m1 e1] 27) := ⟨_, rfl⟩
    obtain ⟨hg, b0, b1⟩ := al2 W #[.bool s0, .slice A0 l0 c0, .slice B0 m0 e0] #[.bool s1, .slice A1 l1 c1, .slice B1 m1 e1] 27 27
    rw [← hW] at hg b0 b1 ⊢
    clear hW
    have c00 : W0.cell? ⟨W.heap.size, 0, none⟩ = some (.bool s0) := b0.c 0 rfl
    have c01 : W0.cell? ⟨W.heap.size, 1, none⟩ = some (.slice A0 l0 c0) := b0.c 1 rfl
    have c02 : W0.cell? ⟨W.heap.size, 2, none⟩ = some (.slice B0 m0 e0) := b0.c 2 rfl
    have c10 : W0.cell? ⟨W.heap.size + 1, 0, none⟩ = some (.bool s1) := b1.c 0 rfl
    have c11 : W0.cell? ⟨W.heap.size + 1, 1, none⟩ = some (.slice A1 l1 c1) := b1.c 1 rfl
    have c12 : W0.cell? ⟨W.heap.size + 1, 2, none⟩ = some (.slice B1 m1 e1) := b1.c 2 rfl
    have HG := hid hg
    clear hg b0 b1
    refine (HLG0.out W0).mono ?_
    rintro e L0 ⟨rfl, hg⟩
    have HX := hid hg
    clear hg
    have HG := hid (HG.out.trans HX.out)
    clear HX
    go_wp2
    go_ret
    exact ⟨rfl, HG.out⟩
  by_cases hlg1 : 40 < l1 ∨ 40 < m1
  · have HLG0 : Hid (∀ V : World, Calls Try.prog 17 #[.agg #[.bool s0, .slice A0 l0 c0, .slice B0 m0 e0]] V (Is V (.bool false))) := fun V => by
      have h := large_c V s0 A0 B0 l0 c0 m0 e0
      rw [show (decide (40 < l0) || decide (40 < m0)) = false by simp; omega] at h
      exact h
    have HLG1 : Hid (∀ V : World, Calls Try.prog 17 #[.agg #[.bool s1, .slice A1 l1 c1, .slice B1 m1 e1]] V (Is V (.bool true))) := fun V => by
      have h := large_c V s1 A1 B1 l1 c1 m1 e1
      rw [show (decide (40 < l1) || decide (40 < m1)) = true by simpa using hlg1] at h
      exact h
    clear hn0 hk0 hn1 hk1 hlg0 hlg1
    go_enter Try.func7, Try.ntmps7
    go_wp2_with fail
    obtain ⟨W0, hW⟩ : ∃ V, V = (W.alloc (.cells #[.bool s0, .slice A0 l0 c0, .slice B0 m0 e0] 27)).alloc (.cells #[.bool s1, .slice A1 l1 c1, .slice B1 m1 e1] 27) := ⟨_, rfl⟩
    obtain ⟨hg, b0, b1⟩ := al2 W #[.bool s0, .slice A0 l0 c0, .slice B0 m0 e0] #[.bool s1, .slice A1 l1 c1, .slice B1 m1 e1] 27 27
    rw [← hW] at hg b0 b1 ⊢
    clear hW
    have c00 : W0.cell? ⟨W.heap.size, 0, none⟩ = some (.bool s0) := b0.c 0 rfl
    have c01 : W0.cell? ⟨W.heap.size, 1, none⟩ = some (.slice A0 l0 c0) := b0.c 1 rfl
    have c02 : W0.cell? ⟨W.heap.size, 2, none⟩ = some (.slice B0 m0 e0) := b0.c 2 rfl
    have c10 : W0.cell? ⟨W.heap.size + 1, 0, none⟩ = some (.bool s1) := b1.c 0 rfl
    have c11 : W0.cell? ⟨W.heap.size + 1, 1, none⟩ = some (.slice A1 l1 c1) := b1.c 1 rfl
    have c12 : W0.cell? ⟨W.heap.size + 1, 2, none⟩ = some (.slice B1 m1 e1) := b1.c 2 rfl
    have HG := hid hg
    clear hg b0 b1
    refine (HLG0.out W0).mono ?_
    rintro e L0 ⟨rfl, hg⟩
    have HX := hid hg
    clear hg
    have k1_c00 := Gr.cell HX.out c00
    have k1_c01 := Gr.cell HX.out c01
    have k1_c02 := Gr.cell HX.out c02
    have k1_c10 := Gr.cell HX.out c10
    have k1_c11 := Gr.cell HX.out c11
    have k1_c12 := Gr.cell HX.out c12
    have HG := hid (HG.out.trans HX.out)
    clear c00 c01 c02 c10 c11 c12 HX
    go_wp2_with fail
    refine (HLG1.out L0).mono ?_
    rintro e L1 ⟨rfl, hg⟩
    have HX := hid hg
    clear hg
    have HG := hid (HG.out.trans HX.out)
    clear HX
    go_wp2
    go_ret
    exact ⟨rfl, HG.out⟩
  have HLG0 : Hid (∀ V : World, Calls Try.prog 17 #[.agg #[.bool s0, .slice A0 l0 c0, .slice B0 m0 e0]] V (Is V (.bool false))) := fun V => by
    have h := large_c V s0 A0 B0 l0 c0 m0 e0
    rw [show (decide (40 < l0) || decide (40 < m0)) = false by simp; omega] at h
    exact h
  have HLG1 : Hid (∀ V : World, Calls Try.prog 17 #[.agg #[.bool s1, .slice A1 l1 c1, .slice B1 m1 e1]] V (Is V (.bool false))) := fun V => by
    have h := large_c V s1 A1 B1 l1 c1 m1 e1
    rw [show (decide (40 < l1) || decide (40 < m1)) = false by simp; omega] at h
    exact h
  obtain ⟨p, hq0⟩ : ∃ q, q = mkRat (sgnd s0 n0) k0 := ⟨_, rfl⟩
  have HAp : Hid (AQ W (.agg #[.bool s0, .slice A0 l0 c0, .slice B0 m0 e0]) p 40) := ⟨s0, _, _, n0, k0, rfl, hn0.le (by omega), hk0.le (by omega), hq0⟩
  obtain ⟨q, hq1⟩ : ∃ q, q = mkRat (sgnd s1 n1) k1 := ⟨_, rfl⟩
  have HAq : Hid (AQ W (.agg #[.bool s1, .slice A1 l1 c1, .slice B1 m1 e1]) q 40) := ⟨s1, _, _, n1, k1, rfl, hn1.le (by omega), hk1.le (by omega), hq1⟩
  clear hlg0 hq0 hn0 hk0 n0 k0 hlg1 hq1 hn1 hk1 n1 k1
  obtain ⟨k, hk⟩ : ∃ k, k = cmpQ p q := ⟨_, rfl⟩
  obtain ⟨bb, hbb⟩ : ∃ b, b = decide (p = q) := ⟨_, rfl⟩
  obtain ⟨ok, hok⟩ : ∃ o, o = decide (q ≠ 0) := ⟨_, rfl⟩
  have hkb : (k == 0) = bb := by rw [hk, hbb, Bool.eq_iff_iff, beq_iff_eq, decide_eq_true_iff]; exact cmpQ_zero p q
  have HCK : Hid (∀ (V : World) (u v : Value), AQ V u p 40 → AQ V v q 40 → Calls Try.prog 18 #[u, v] V (Is V (.int .i64 k))) := fun V u v h1 h2 => by
    have h := rcmp_c V u v p q 40 h1 h2 (by decide) (by decide)
    rw [← hk] at h
    exact h
  have HSM : Hid (∀ (V : World) (b1 b2 : Nat) (u v : Value), VQ V b1 u p 40 → VQ V b2 v q 40 → Calls Try.prog 12 #[u, v] V (Is V (.bool bb))) := fun V b1 b2 u v h1 h2 => by
    have h := same_c V b1 b2 u v _ _ 40 h1 h2 (by decide)
    rw [← hbb] at h
    exact h
  have HDV : Hid (∀ (V : World) (u v : Value), AQ V u p 40 → AQ V v q 40 → Calls Try.prog 26 #[u, v] V (RetB V ok fun v w' => VQ w' V.heap.size v (p / q) 80)) := fun V u v h1 h2 => by
    have h := rdiv_c V u v p q 40 h1 h2 (by decide) (by decide)
    rw [← hok] at h
    exact h
  clear hk hbb hok
  go_enter Try.func7, Try.ntmps7
  go_wp2_with fail
  obtain ⟨W0, hW⟩ : ∃ V, V = (W.alloc (.cells #[.bool s0, .slice A0 l0 c0, .slice B0 m0 e0] 27)).alloc (.cells #[.bool s1, .slice A1 l1 c1, .slice B1 m1 e1] 27) := ⟨_, rfl⟩
  obtain ⟨hg, b0, b1⟩ := al2 W #[.bool s0, .slice A0 l0 c0, .slice B0 m0 e0] #[.bool s1, .slice A1 l1 c1, .slice B1 m1 e1] 27 27
  rw [← hW] at hg b0 b1 ⊢
  clear hW
  have c00 : W0.cell? ⟨W.heap.size, 0, none⟩ = some (.bool s0) := b0.c 0 rfl
  have c01 : W0.cell? ⟨W.heap.size, 1, none⟩ = some (.slice A0 l0 c0) := b0.c 1 rfl
  have c02 : W0.cell? ⟨W.heap.size, 2, none⟩ = some (.slice B0 m0 e0) := b0.c 2 rfl
  have c10 : W0.cell? ⟨W.heap.size + 1, 0, none⟩ = some (.bool s1) := b1.c 0 rfl
  have c11 : W0.cell? ⟨W.heap.size + 1, 1, none⟩ = some (.slice A1 l1 c1) := b1.c 1 rfl
  have c12 : W0.cell? ⟨W.heap.size + 1, 2, none⟩ = some (.slice B1 m1 e1) := b1.c 2 rfl
  have HAp := hid (HAp.out.gr hg)
  have HAq := hid (HAq.out.gr hg)
  have HG := hid hg
  clear hg b0 b1
  refine (HLG0.out W0).mono ?_
  rintro e L0 ⟨rfl, hg⟩
  have HX := hid hg
  clear hg
  have k2_c00 := Gr.cell HX.out c00
  have k2_c01 := Gr.cell HX.out c01
  have k2_c02 := Gr.cell HX.out c02
  have k2_c10 := Gr.cell HX.out c10
  have k2_c11 := Gr.cell HX.out c11
  have k2_c12 := Gr.cell HX.out c12
  have HG := hid (HG.out.trans HX.out)
  have HAp := hid (HAp.out.gr HX.out)
  have HAq := hid (HAq.out.gr HX.out)
  clear c00 c01 c02 c10 c11 c12 HX
  go_wp2_with fail
  refine (HLG1.out L0).mono ?_
  rintro e L1 ⟨rfl, hg⟩
  have HX := hid hg
  clear hg
  have k3_c00 := Gr.cell HX.out k2_c00
  have k3_c01 := Gr.cell HX.out k2_c01
  have k3_c02 := Gr.cell HX.out k2_c02
  have k3_c10 := Gr.cell HX.out k2_c10
  have k3_c11 := Gr.cell HX.out k2_c11
  have k3_c12 := Gr.cell HX.out k2_c12
  have HG := hid (HG.out.trans HX.out)
  have HAp := hid (HAp.out.gr HX.out)
  have HAq := hid (HAq.out.gr HX.out)
  clear k2_c00 k2_c01 k2_c02 k2_c10 k2_c11 k2_c12 HX
  go_upto_region 3 with (fail)
  go_cut [5, 6] from 15 to 18 (fun x y V => Hid (TwoAt L1 p q 40 x y V))
  case first =>
    go_region_held3 (fun V => Gr L1 V ∧ V.cell? ⟨W.heap.size, 0, none⟩ = some (.bool s0) ∧ V.cell? ⟨W.heap.size, 1, none⟩ = some (.slice A0 l0 c0) ∧ V.cell? ⟨W.heap.size, 2, none⟩ = some (.slice B0 m0 e0) ∧ V.cell? ⟨W.heap.size + 1, 0, none⟩ = some (.bool s1) ∧ V.cell? ⟨W.heap.size + 1, 1, none⟩ = some (.slice A1 l1 c1) ∧ V.cell? ⟨W.heap.size + 1, 2, none⟩ = some (.slice B1 m1 e1))
      ((refine (fun G => ⟨G, Gr.cell G k3_c00, Gr.cell G k3_c01, Gr.cell G k3_c02, Gr.cell G k3_c10, Gr.cell G k3_c11, Gr.cell G k3_c12⟩) ?_; first
        | exact (Gr.refl L1).drew
        | with_reducible exact Gr.drew (Gr.alloc _ _)
        | with_reducible exact Gr.drew (Gr.al (Gr.alloc _ _) _)
        | with_reducible exact G2.out
        | with_reducible exact G1.out
        | with_reducible exact Gr.al (‹Gr L1 _ ∧ _›).1 _
        | with_reducible exact Gr.al G2.out _
        | with_reducible exact Gr.al (Gr.al G2.out _) _
        | ((with_reducible refine (Gr.al (Gr.set3 G2.out ?_) _)) <;> (first | exact Nat.le_refl _ | exact G1.out.size | exact G2.out.size | (have h1 := G1.out.size; omega)))
        | ((with_reducible refine (Gr.set3 G2.out ?_)) <;> (first | exact Nat.le_refl _ | exact G1.out.size | exact G2.out.size | (have h1 := G1.out.size; omega)))
        | ((with_reducible refine (Gr.set3 (Gr.al G2.out _) ?_)) <;> (first | exact Nat.le_refl _ | exact G1.out.size | exact G2.out.size | (have h1 := G1.out.size; omega)))
        | ((with_reducible refine (Gr.set3 (Gr.set3 G2.out ?_) ?_)) <;> (first | exact Nat.le_refl _ | exact G1.out.size | exact G2.out.size | (have h1 := G1.out.size; omega)))
        | ((with_reducible refine (Gr.set3 (‹Gr L1 _ ∧ _›).1 ?_)) <;> (first | exact Nat.le_refl _ | exact G1.out.size | exact G2.out.size | (have h1 := G1.out.size; omega)))))
      (first
        | (go_at_call 31; refine (rnorm_c _ _ q 40 (HAq.out.gr (‹Gr L1 _ ∧ _›).1) (by decide) (by decide)).mono ?_; rintro e w5 ⟨v, rfl, hv, hg⟩; have HV1x := hid (HV1.out.gr (Gr.trans (by first | exact Gr.refl _ | exact Gr.alloc _ _ | exact (Gr.alloc _ _).trans (Gr.alloc _ _)) hg)); obtain ⟨Ap2, lp2, cp2, Bp2, mp2, ep2, rfl, hv⟩ := hv.form; obtain ⟨sp2, hs⟩ : ∃ b, b = decide (q.num < 0) := ⟨_, rfl⟩; rw [← hs] at hv ⊢; have HV2 := hid (hv.base (b' := L1.heap.size) (‹Gr L1 _ ∧ _›).1.size); clear hs; have G2 := hid ((‹Gr L1 _ ∧ _›).1.trans hg); (try (have nbx : ¬ (L1.heap.size = w4.heap.size) := Nat.ne_of_lt BX.out.lt; have nby : ¬ (w4.heap.size = L1.heap.size) := Nat.ne_of_gt BX.out.lt)); (try (have BX2 := hid (BX.out.gr (Gr.trans (by first | exact Gr.refl _ | exact Gr.alloc _ _) hg)))); (try (have BY2 := hid (BY.out.gr hg))); (try (have CX2 : Hid (Blk w5 (w4.heap.size) #[.bool false, .slice none 0 0, .slice none 0 0] 27) := hid ((Blk.new w4 #[.bool false, .slice none 0 0, .slice none 0 0] 27).gr (Gr.trans (by first | exact Gr.refl _ | exact Gr.alloc _ _) hg)))); (try (have CY2 : Hid (Blk w5 (w4.heap.size + 1) #[.bool false, .slice none 0 0, .slice none 0 0] 27) := hid ((Blk.at (w := w4.alloc (.cells #[.bool false, .slice none 0 0, .slice none 0 0] 27)) (by simp)).gr hg))); (try (have zbx0 : w5.cell? ⟨L1.heap.size, 0, none⟩ = some (.bool false) := BX2.out.c 0 rfl; have fbx0 : w5.frozen? ⟨L1.heap.size, 0, none⟩ = false := BX2.out.free 0; have zbx1 : w5.cell? ⟨L1.heap.size, 1, none⟩ = some (.slice none 0 0) := BX2.out.c 1 rfl; have fbx1 : w5.frozen? ⟨L1.heap.size, 1, none⟩ = false := BX2.out.free 1; have zbx2 : w5.cell? ⟨L1.heap.size, 2, none⟩ = some (.slice none 0 0) := BX2.out.c 2 rfl; have fbx2 : w5.frozen? ⟨L1.heap.size, 2, none⟩ = false := BX2.out.free 2; have lbx : L1.heap.size < w5.heap.size := BX2.out.lt)); (try (have zby0 : w5.cell? ⟨L1.heap.size + 1, 0, none⟩ = some (.bool false) := BY2.out.c 0 rfl; have fby0 : w5.frozen? ⟨L1.heap.size + 1, 0, none⟩ = false := BY2.out.free 0; have zby1 : w5.cell? ⟨L1.heap.size + 1, 1, none⟩ = some (.slice none 0 0) := BY2.out.c 1 rfl; have fby1 : w5.frozen? ⟨L1.heap.size + 1, 1, none⟩ = false := BY2.out.free 1; have zby2 : w5.cell? ⟨L1.heap.size + 1, 2, none⟩ = some (.slice none 0 0) := BY2.out.c 2 rfl; have fby2 : w5.frozen? ⟨L1.heap.size + 1, 2, none⟩ = false := BY2.out.free 2; have lby : L1.heap.size + 1 < w5.heap.size := BY2.out.lt)); (try (have zcx0 : w5.cell? ⟨w4.heap.size, 0, none⟩ = some (.bool false) := CX2.out.c 0 rfl; have fcx0 : w5.frozen? ⟨w4.heap.size, 0, none⟩ = false := CX2.out.free 0; have zcx1 : w5.cell? ⟨w4.heap.size, 1, none⟩ = some (.slice none 0 0) := CX2.out.c 1 rfl; have fcx1 : w5.frozen? ⟨w4.heap.size, 1, none⟩ = false := CX2.out.free 1; have zcx2 : w5.cell? ⟨w4.heap.size, 2, none⟩ = some (.slice none 0 0) := CX2.out.c 2 rfl; have fcx2 : w5.frozen? ⟨w4.heap.size, 2, none⟩ = false := CX2.out.free 2; have lcx : w4.heap.size < w5.heap.size := CX2.out.lt)); (try (have zcy0 : w5.cell? ⟨w4.heap.size + 1, 0, none⟩ = some (.bool false) := CY2.out.c 0 rfl; have fcy0 : w5.frozen? ⟨w4.heap.size + 1, 0, none⟩ = false := CY2.out.free 0; have zcy1 : w5.cell? ⟨w4.heap.size + 1, 1, none⟩ = some (.slice none 0 0) := CY2.out.c 1 rfl; have fcy1 : w5.frozen? ⟨w4.heap.size + 1, 1, none⟩ = false := CY2.out.free 1; have zcy2 : w5.cell? ⟨w4.heap.size + 1, 2, none⟩ = some (.slice none 0 0) := CY2.out.c 2 rfl; have fcy2 : w5.frozen? ⟨w4.heap.size + 1, 2, none⟩ = false := CY2.out.free 2; have lcy : w4.heap.size + 1 < w5.heap.size := CY2.out.lt)); clear hv hg)
        | (go_at_call 31; refine (rnorm_c _ _ p 40 (HAp.out.gr (‹Gr L1 _ ∧ _›).1) (by decide) (by decide)).mono ?_; rintro e w4 ⟨v, rfl, hv, hg⟩; obtain ⟨Ap1, lp1, cp1, Bp1, mp1, ep1, rfl, hv⟩ := hv.form; obtain ⟨sp1, hs⟩ : ∃ b, b = decide (p.num < 0) := ⟨_, rfl⟩; rw [← hs] at hv ⊢; have HV1 := hid (hv.base (b' := L1.heap.size) (‹Gr L1 _ ∧ _›).1.size); clear hs; have G1 := hid ((‹Gr L1 _ ∧ _›).1.trans hg); (try (have BX : Hid (Blk w4 (L1.heap.size) #[.bool false, .slice none 0 0, .slice none 0 0] 27) := hid ((Blk.new L1 #[.bool false, .slice none 0 0, .slice none 0 0] 27).gr ((by first | exact Gr.refl _ | exact Gr.alloc _ _ : Gr _ _).trans ((Gr.refl _).drew.trans hg))))); (try (have BY : Hid (Blk w4 (L1.heap.size + 1) #[.bool false, .slice none 0 0, .slice none 0 0] 27) := hid ((Blk.at (w := L1.alloc (.cells #[.bool false, .slice none 0 0, .slice none 0 0] 27)) (by simp)).gr ((Gr.refl _).drew.trans hg)))); clear hv hg))
    all_goals go_wp2_with fail
    all_goals go_meet
    all_goals have HT : Hid (Two L1 w5 (.agg #[.bool sp1, .slice Ap1 lp1 cp1, .slice Bp1 mp1 ep1]) (.agg #[.bool sp2, .slice Ap2 lp2 cp2, .slice Bp2 mp2 ep2]) p q 40 40) := ⟨G2.out, HV1x.out, HV2.out⟩
    all_goals have hs1 := G1.out.size
    all_goals refine hid ?_
    all_goals (first
        | ((with_reducible refine TwoAt.mk (Blk.al (Blk.new w5 _ _) _) (Blk.at ?_) ((HT.out.alloc _).alloc _)) <;> (first | exact Nat.le_refl _ | exact hs1 | exact size3 _ _ _ _ _ | omega | (simp; done)))
        | ((with_reducible refine TwoAt.mk (Blk.at ?_) (Blk.al (Blk.new w5 _ _) _) ((HT.out.alloc _).alloc _)) <;> (first | exact Nat.le_refl _ | exact hs1 | exact size3 _ _ _ _ _ | omega | (simp; done)))
        | ((with_reducible refine TwoAt.mk (Blk.al (Blk.set3 BX2.out) _) (Blk.at ?_) ((HT.out.set BX2.out ?_).alloc _)) <;> (first | exact Nat.le_refl _ | exact hs1 | exact size3 _ _ _ _ _ | omega | (simp; done)))
        | ((with_reducible refine TwoAt.mk (Blk.at ?_) (Blk.al (Blk.set3 BX2.out) _) ((HT.out.set BX2.out ?_).alloc _)) <;> (first | exact Nat.le_refl _ | exact hs1 | exact size3 _ _ _ _ _ | omega | (simp; done)))
        | ((with_reducible refine TwoAt.mk (Blk.al (Blk.set3 CX2.out) _) (Blk.at ?_) ((HT.out.set CX2.out ?_).alloc _)) <;> (first | exact Nat.le_refl _ | exact hs1 | exact size3 _ _ _ _ _ | omega | (simp; done)))
        | ((with_reducible refine TwoAt.mk (Blk.at ?_) (Blk.al (Blk.set3 CX2.out) _) ((HT.out.set CX2.out ?_).alloc _)) <;> (first | exact Nat.le_refl _ | exact hs1 | exact size3 _ _ _ _ _ | omega | (simp; done)))
        | ((with_reducible refine TwoAt.mk (Blk.oth (Blk.set3 CX2.out) ?_) (Blk.set3 (Blk.oth CY2.out ?_)) ((HT.out.set CX2.out ?_).set (Blk.oth CY2.out ?_) ?_)) <;> (first | exact Nat.le_refl _ | exact hs1 | exact size3 _ _ _ _ _ | omega | (simp; done)))
        | ((with_reducible refine TwoAt.mk (Blk.oth (Blk.set3 CY2.out) ?_) (Blk.set3 (Blk.oth CX2.out ?_)) ((HT.out.set CY2.out ?_).set (Blk.oth CX2.out ?_) ?_)) <;> (first | exact Nat.le_refl _ | exact hs1 | exact size3 _ _ _ _ _ | omega | (simp; done)))
        | ((with_reducible refine TwoAt.mk (Blk.oth (Blk.set3 BX2.out) ?_) (Blk.set3 (Blk.oth CX2.out ?_)) ((HT.out.set BX2.out ?_).set (Blk.oth CX2.out ?_) ?_)) <;> (first | exact Nat.le_refl _ | exact hs1 | exact size3 _ _ _ _ _ | omega | (simp; done)))
        | ((with_reducible refine TwoAt.mk (Blk.oth (Blk.set3 CX2.out) ?_) (Blk.set3 (Blk.oth BX2.out ?_)) ((HT.out.set CX2.out ?_).set (Blk.oth BX2.out ?_) ?_)) <;> (first | exact Nat.le_refl _ | exact hs1 | exact size3 _ _ _ _ _ | omega | (simp; done)))
        | ((with_reducible refine TwoAt.mk (Blk.oth (Blk.set3 BX2.out) ?_) (Blk.set3 (Blk.oth BY2.out ?_)) ((HT.out.set BX2.out ?_).set (Blk.oth BY2.out ?_) ?_)) <;> (first | exact Nat.le_refl _ | exact hs1 | exact size3 _ _ _ _ _ | omega | (simp; done)))
        | ((with_reducible refine TwoAt.mk (Blk.oth (Blk.set3 BY2.out) ?_) (Blk.set3 (Blk.oth BX2.out ?_)) ((HT.out.set BY2.out ?_).set (Blk.oth BX2.out ?_) ?_)) <;> (first | exact Nat.le_refl _ | exact hs1 | exact size3 _ _ _ _ _ | omega | (simp; done))))
  case rest =>
    obtain ⟨g1, g2, s8, A8, l8, c8, B8, m8, e8, s9, A9, l9, c9, B9, m9, e9, rfl, rfl, hb1, hb2, hT⟩ := hcut.out
    have HX := hid hT.gr
    have HAx := hid hT.a
    have HAy := hid hT.b
    have HB1 := hid hb1
    have HB2 := hid hb2
    clear hcut hT hb1 hb2
    have k4_c00 := Gr.cell HX.out k3_c00
    have k4_c01 := Gr.cell HX.out k3_c01
    have k4_c02 := Gr.cell HX.out k3_c02
    have k4_c10 := Gr.cell HX.out k3_c10
    have k4_c11 := Gr.cell HX.out k3_c11
    have k4_c12 := Gr.cell HX.out k3_c12
    have HG := hid (HG.out.trans HX.out)
    have HAp := hid (HAp.out.gr HX.out)
    have HAq := hid (HAq.out.gr HX.out)
    clear k3_c00 k3_c01 k3_c02 k3_c10 k3_c11 k3_c12 HX
    have n8_c80 : wc.cell? ⟨g1, 0, none⟩ = some (.bool s8) := HB1.out.c 0 rfl
    have n8_c81 : wc.cell? ⟨g1, 1, none⟩ = some (.slice A8 l8 c8) := HB1.out.c 1 rfl
    have n8_c82 : wc.cell? ⟨g1, 2, none⟩ = some (.slice B8 m8 e8) := HB1.out.c 2 rfl
    have n9_c90 : wc.cell? ⟨g2, 0, none⟩ = some (.bool s9) := HB2.out.c 0 rfl
    have n9_c91 : wc.cell? ⟨g2, 1, none⟩ = some (.slice A9 l9 c9) := HB2.out.c 1 rfl
    have n9_c92 : wc.cell? ⟨g2, 2, none⟩ = some (.slice B9 m9 e9) := HB2.out.c 2 rfl
    go_wp2_with fail
    refine (normal_c wc _ _ p 40 (HAx.out.le (by decide)) (by decide)).mono ?_
    rintro e W11 ⟨rfl, hg⟩
    have HX := hid hg
    clear hg
    have k5_c00 := Gr.cell HX.out k4_c00
    have k5_c01 := Gr.cell HX.out k4_c01
    have k5_c02 := Gr.cell HX.out k4_c02
    have k5_c10 := Gr.cell HX.out k4_c10
    have k5_c11 := Gr.cell HX.out k4_c11
    have k5_c12 := Gr.cell HX.out k4_c12
    have k5_c80 := Gr.cell HX.out n8_c80
    have k5_c81 := Gr.cell HX.out n8_c81
    have k5_c82 := Gr.cell HX.out n8_c82
    have k5_c90 := Gr.cell HX.out n9_c90
    have k5_c91 := Gr.cell HX.out n9_c91
    have k5_c92 := Gr.cell HX.out n9_c92
    have HG := hid (HG.out.trans HX.out)
    have HAp := hid (HAp.out.gr HX.out)
    have HAq := hid (HAq.out.gr HX.out)
    have HAx := hid (HAx.out.gr HX.out)
    have HAy := hid (HAy.out.gr HX.out)
    clear k4_c00 k4_c01 k4_c02 k4_c10 k4_c11 k4_c12 n8_c80 n8_c81 n8_c82 n9_c90 n9_c91 n9_c92 HX
    go_wp2_with fail
    refine (normal_c W11 _ _ q 40 (HAy.out.le (by decide)) (by decide)).mono ?_
    rintro e W12 ⟨rfl, hg⟩
    have HX := hid hg
    clear hg
    have k6_c00 := Gr.cell HX.out k5_c00
    have k6_c01 := Gr.cell HX.out k5_c01
    have k6_c02 := Gr.cell HX.out k5_c02
    have k6_c10 := Gr.cell HX.out k5_c10
    have k6_c11 := Gr.cell HX.out k5_c11
    have k6_c12 := Gr.cell HX.out k5_c12
    have k6_c80 := Gr.cell HX.out k5_c80
    have k6_c81 := Gr.cell HX.out k5_c81
    have k6_c82 := Gr.cell HX.out k5_c82
    have k6_c90 := Gr.cell HX.out k5_c90
    have k6_c91 := Gr.cell HX.out k5_c91
    have k6_c92 := Gr.cell HX.out k5_c92
    have HG := hid (HG.out.trans HX.out)
    have HAp := hid (HAp.out.gr HX.out)
    have HAq := hid (HAq.out.gr HX.out)
    have HAx := hid (HAx.out.gr HX.out)
    have HAy := hid (HAy.out.gr HX.out)
    clear k5_c00 k5_c01 k5_c02 k5_c10 k5_c11 k5_c12 k5_c80 k5_c81 k5_c82 k5_c90 k5_c91 k5_c92 HX
    go_wp2_with fail
    refine (radd_c W12 _ _ p q 40 (HAp.out.le (by decide)) (HAq.out.le (by decide)) (by decide) (by decide)).mono ?_
    rintro e W13 ⟨vv1, rfl, hv, hg⟩
    have HX := hid hg
    clear hg
    have k7_c00 := Gr.cell HX.out k6_c00
    have k7_c01 := Gr.cell HX.out k6_c01
    have k7_c02 := Gr.cell HX.out k6_c02
    have k7_c10 := Gr.cell HX.out k6_c10
    have k7_c11 := Gr.cell HX.out k6_c11
    have k7_c12 := Gr.cell HX.out k6_c12
    have k7_c80 := Gr.cell HX.out k6_c80
    have k7_c81 := Gr.cell HX.out k6_c81
    have k7_c82 := Gr.cell HX.out k6_c82
    have k7_c90 := Gr.cell HX.out k6_c90
    have k7_c91 := Gr.cell HX.out k6_c91
    have k7_c92 := Gr.cell HX.out k6_c92
    have HG := hid (HG.out.trans HX.out)
    have HAp := hid (HAp.out.gr HX.out)
    have HAq := hid (HAq.out.gr HX.out)
    have HAx := hid (HAx.out.gr HX.out)
    have HAy := hid (HAy.out.gr HX.out)
    clear k6_c00 k6_c01 k6_c02 k6_c10 k6_c11 k6_c12 k6_c80 k6_c81 k6_c82 k6_c90 k6_c91 k6_c92 HX
    have HAv1 := hid hv
    clear hv
    go_wp2_with fail
    refine (normal_c W13 _ _ (p + q) 81 (HAv1.out.le (by decide)) (by decide)).mono ?_
    rintro e W14 ⟨rfl, hg⟩
    have HX := hid hg
    clear hg
    have k8_c00 := Gr.cell HX.out k7_c00
    have k8_c01 := Gr.cell HX.out k7_c01
    have k8_c02 := Gr.cell HX.out k7_c02
    have k8_c10 := Gr.cell HX.out k7_c10
    have k8_c11 := Gr.cell HX.out k7_c11
    have k8_c12 := Gr.cell HX.out k7_c12
    have k8_c80 := Gr.cell HX.out k7_c80
    have k8_c81 := Gr.cell HX.out k7_c81
    have k8_c82 := Gr.cell HX.out k7_c82
    have k8_c90 := Gr.cell HX.out k7_c90
    have k8_c91 := Gr.cell HX.out k7_c91
    have k8_c92 := Gr.cell HX.out k7_c92
    have HG := hid (HG.out.trans HX.out)
    have HAp := hid (HAp.out.gr HX.out)
    have HAq := hid (HAq.out.gr HX.out)
    have HAx := hid (HAx.out.gr HX.out)
    have HAy := hid (HAy.out.gr HX.out)
    have HAv1 := hid (HAv1.out.gr HX.out)
    clear k7_c00 k7_c01 k7_c02 k7_c10 k7_c11 k7_c12 k7_c80 k7_c81 k7_c82 k7_c90 k7_c91 k7_c92 HX
    go_wp2_with fail
    refine (rmul_c W14 _ _ p q 40 (HAp.out.le (by decide)) (HAq.out.le (by decide)) (by decide) (by decide)).mono ?_
    rintro e W15 ⟨vv2, rfl, hv, hg⟩
    have HX := hid hg
    clear hg
    have k9_c00 := Gr.cell HX.out k8_c00
    have k9_c01 := Gr.cell HX.out k8_c01
    have k9_c02 := Gr.cell HX.out k8_c02
    have k9_c10 := Gr.cell HX.out k8_c10
    have k9_c11 := Gr.cell HX.out k8_c11
    have k9_c12 := Gr.cell HX.out k8_c12
    have k9_c80 := Gr.cell HX.out k8_c80
    have k9_c81 := Gr.cell HX.out k8_c81
    have k9_c82 := Gr.cell HX.out k8_c82
    have k9_c90 := Gr.cell HX.out k8_c90
    have k9_c91 := Gr.cell HX.out k8_c91
    have k9_c92 := Gr.cell HX.out k8_c92
    have HG := hid (HG.out.trans HX.out)
    have HAp := hid (HAp.out.gr HX.out)
    have HAq := hid (HAq.out.gr HX.out)
    have HAx := hid (HAx.out.gr HX.out)
    have HAy := hid (HAy.out.gr HX.out)
    clear k8_c00 k8_c01 k8_c02 k8_c10 k8_c11 k8_c12 k8_c80 k8_c81 k8_c82 k8_c90 k8_c91 k8_c92 HX
    have HAv2 := hid hv
    clear hv
    go_wp2_with fail
    refine (normal_c W15 _ _ (p * q) 81 (HAv2.out.le (by decide)) (by decide)).mono ?_
    rintro e W16 ⟨rfl, hg⟩
    have HX := hid hg
    clear hg
    have k10_c00 := Gr.cell HX.out k9_c00
    have k10_c01 := Gr.cell HX.out k9_c01
    have k10_c02 := Gr.cell HX.out k9_c02
    have k10_c10 := Gr.cell HX.out k9_c10
    have k10_c11 := Gr.cell HX.out k9_c11
    have k10_c12 := Gr.cell HX.out k9_c12
    have k10_c80 := Gr.cell HX.out k9_c80
    have k10_c81 := Gr.cell HX.out k9_c81
    have k10_c82 := Gr.cell HX.out k9_c82
    have k10_c90 := Gr.cell HX.out k9_c90
    have k10_c91 := Gr.cell HX.out k9_c91
    have k10_c92 := Gr.cell HX.out k9_c92
    have HG := hid (HG.out.trans HX.out)
    have HAp := hid (HAp.out.gr HX.out)
    have HAq := hid (HAq.out.gr HX.out)
    have HAx := hid (HAx.out.gr HX.out)
    have HAy := hid (HAy.out.gr HX.out)
    have HAv2 := hid (HAv2.out.gr HX.out)
    clear k9_c00 k9_c01 k9_c02 k9_c10 k9_c11 k9_c12 k9_c80 k9_c81 k9_c82 k9_c90 k9_c91 k9_c92 HX
    go_wp2_with fail
    refine (rneg_c W16 _ p 40 (HAp.out.le (by decide)) (by decide) (by decide)).mono ?_
    rintro e W17 ⟨vv3, rfl, hv, hg⟩
    have HX := hid hg
    clear hg
    have k11_c00 := Gr.cell HX.out k10_c00
    have k11_c01 := Gr.cell HX.out k10_c01
    have k11_c02 := Gr.cell HX.out k10_c02
    have k11_c10 := Gr.cell HX.out k10_c10
    have k11_c11 := Gr.cell HX.out k10_c11
    have k11_c12 := Gr.cell HX.out k10_c12
    have k11_c80 := Gr.cell HX.out k10_c80
    have k11_c81 := Gr.cell HX.out k10_c81
    have k11_c82 := Gr.cell HX.out k10_c82
    have k11_c90 := Gr.cell HX.out k10_c90
    have k11_c91 := Gr.cell HX.out k10_c91
    have k11_c92 := Gr.cell HX.out k10_c92
    have HG := hid (HG.out.trans HX.out)
    have HAp := hid (HAp.out.gr HX.out)
    have HAq := hid (HAq.out.gr HX.out)
    have HAx := hid (HAx.out.gr HX.out)
    have HAy := hid (HAy.out.gr HX.out)
    clear k10_c00 k10_c01 k10_c02 k10_c10 k10_c11 k10_c12 k10_c80 k10_c81 k10_c82 k10_c90 k10_c91 k10_c92 HX
    have HAv3 := hid hv
    clear hv
    go_wp2_with fail
    refine (normal_c W17 _ _ (-p) 40 (HAv3.out.le (by decide)) (by decide)).mono ?_
    rintro e W18 ⟨rfl, hg⟩
    have HX := hid hg
    clear hg
    have k12_c00 := Gr.cell HX.out k11_c00
    have k12_c01 := Gr.cell HX.out k11_c01
    have k12_c02 := Gr.cell HX.out k11_c02
    have k12_c10 := Gr.cell HX.out k11_c10
    have k12_c11 := Gr.cell HX.out k11_c11
    have k12_c12 := Gr.cell HX.out k11_c12
    have k12_c80 := Gr.cell HX.out k11_c80
    have k12_c81 := Gr.cell HX.out k11_c81
    have k12_c82 := Gr.cell HX.out k11_c82
    have k12_c90 := Gr.cell HX.out k11_c90
    have k12_c91 := Gr.cell HX.out k11_c91
    have k12_c92 := Gr.cell HX.out k11_c92
    have HG := hid (HG.out.trans HX.out)
    have HAp := hid (HAp.out.gr HX.out)
    have HAq := hid (HAq.out.gr HX.out)
    have HAx := hid (HAx.out.gr HX.out)
    have HAy := hid (HAy.out.gr HX.out)
    have HAv3 := hid (HAv3.out.gr HX.out)
    clear k11_c00 k11_c01 k11_c02 k11_c10 k11_c11 k11_c12 k11_c80 k11_c81 k11_c82 k11_c90 k11_c91 k11_c92 HX
    go_wp2_with fail
    refine (rsub_c W18 _ _ p q 40 (HAp.out.le (by decide)) (HAq.out.le (by decide)) (by decide) (by decide)).mono ?_
    rintro e W19 ⟨vv4, rfl, hv, hg⟩
    have HX := hid hg
    clear hg
    have k13_c00 := Gr.cell HX.out k12_c00
    have k13_c01 := Gr.cell HX.out k12_c01
    have k13_c02 := Gr.cell HX.out k12_c02
    have k13_c10 := Gr.cell HX.out k12_c10
    have k13_c11 := Gr.cell HX.out k12_c11
    have k13_c12 := Gr.cell HX.out k12_c12
    have k13_c80 := Gr.cell HX.out k12_c80
    have k13_c81 := Gr.cell HX.out k12_c81
    have k13_c82 := Gr.cell HX.out k12_c82
    have k13_c90 := Gr.cell HX.out k12_c90
    have k13_c91 := Gr.cell HX.out k12_c91
    have k13_c92 := Gr.cell HX.out k12_c92
    have HG := hid (HG.out.trans HX.out)
    have HAp := hid (HAp.out.gr HX.out)
    have HAq := hid (HAq.out.gr HX.out)
    have HAx := hid (HAx.out.gr HX.out)
    have HAy := hid (HAy.out.gr HX.out)
    clear k12_c00 k12_c01 k12_c02 k12_c10 k12_c11 k12_c12 k12_c80 k12_c81 k12_c82 k12_c90 k12_c91 k12_c92 HX
    have HAv4 := hid hv
    clear hv
    go_wp2_with fail
    refine (normal_c W19 _ _ (p - q) 81 (HAv4.out.le (by decide)) (by decide)).mono ?_
    rintro e W20 ⟨rfl, hg⟩
    have HX := hid hg
    clear hg
    have k14_c00 := Gr.cell HX.out k13_c00
    have k14_c01 := Gr.cell HX.out k13_c01
    have k14_c02 := Gr.cell HX.out k13_c02
    have k14_c10 := Gr.cell HX.out k13_c10
    have k14_c11 := Gr.cell HX.out k13_c11
    have k14_c12 := Gr.cell HX.out k13_c12
    have k14_c80 := Gr.cell HX.out k13_c80
    have k14_c81 := Gr.cell HX.out k13_c81
    have k14_c82 := Gr.cell HX.out k13_c82
    have k14_c90 := Gr.cell HX.out k13_c90
    have k14_c91 := Gr.cell HX.out k13_c91
    have k14_c92 := Gr.cell HX.out k13_c92
    have HG := hid (HG.out.trans HX.out)
    have HAp := hid (HAp.out.gr HX.out)
    have HAq := hid (HAq.out.gr HX.out)
    have HAx := hid (HAx.out.gr HX.out)
    have HAy := hid (HAy.out.gr HX.out)
    have HAv4 := hid (HAv4.out.gr HX.out)
    clear k13_c00 k13_c01 k13_c02 k13_c10 k13_c11 k13_c12 k13_c80 k13_c81 k13_c82 k13_c90 k13_c91 k13_c92 HX
    go_wp2_with fail
    refine (HDV.out W20 _ _ HAp.out HAq.out).mono ?_
    rintro e w9 ⟨v, rfl, h1, hg⟩
    have HX := hid hg
    clear hg
    obtain ⟨A7, l7, c7, B7, m7, e7, rfl, h1⟩ := h1.form
    obtain ⟨s7, hs7⟩ : ∃ b, b = decide ((p / q).num < 0) := ⟨_, rfl⟩
    rw [← hs7] at h1 ⊢
    have HAqt := hid h1
    clear h1 hs7
    have k15_c00 := Gr.cell HX.out k14_c00
    have k15_c01 := Gr.cell HX.out k14_c01
    have k15_c02 := Gr.cell HX.out k14_c02
    have k15_c10 := Gr.cell HX.out k14_c10
    have k15_c11 := Gr.cell HX.out k14_c11
    have k15_c12 := Gr.cell HX.out k14_c12
    have k15_c80 := Gr.cell HX.out k14_c80
    have k15_c81 := Gr.cell HX.out k14_c81
    have k15_c82 := Gr.cell HX.out k14_c82
    have k15_c90 := Gr.cell HX.out k14_c90
    have k15_c91 := Gr.cell HX.out k14_c91
    have k15_c92 := Gr.cell HX.out k14_c92
    have HG := hid (HG.out.trans HX.out)
    have HAp := hid (HAp.out.gr HX.out)
    have HAq := hid (HAq.out.gr HX.out)
    have HAx := hid (HAx.out.gr HX.out)
    have HAy := hid (HAy.out.gr HX.out)
    clear k14_c00 k14_c01 k14_c02 k14_c10 k14_c11 k14_c12 k14_c80 k14_c81 k14_c82 k14_c90 k14_c91 k14_c92 HX
    go_upto_region 7 with (fail)
    obtain ⟨W4, hW⟩ : ∃ V, V = w9.alloc (.cells #[.bool s7, .slice A7 l7 c7, .slice B7 m7 e7] 27) := ⟨_, rfl⟩
    obtain ⟨hg, b1⟩ := al1 w9 #[.bool s7, .slice A7 l7 c7, .slice B7 m7 e7] 27
    rw [← hW] at hg b1 ⊢
    clear hW
    have HX := hid hg
    clear hg
    have HAqt := hid (HAqt.out)
    have k16_c00 := Gr.cell HX.out k15_c00
    have k16_c01 := Gr.cell HX.out k15_c01
    have k16_c02 := Gr.cell HX.out k15_c02
    have k16_c10 := Gr.cell HX.out k15_c10
    have k16_c11 := Gr.cell HX.out k15_c11
    have k16_c12 := Gr.cell HX.out k15_c12
    have k16_c80 := Gr.cell HX.out k15_c80
    have k16_c81 := Gr.cell HX.out k15_c81
    have k16_c82 := Gr.cell HX.out k15_c82
    have k16_c90 := Gr.cell HX.out k15_c90
    have k16_c91 := Gr.cell HX.out k15_c91
    have k16_c92 := Gr.cell HX.out k15_c92
    have HG := hid (HG.out.trans HX.out)
    have HAp := hid (HAp.out.gr HX.out)
    have HAq := hid (HAq.out.gr HX.out)
    have HAx := hid (HAx.out.gr HX.out)
    have HAy := hid (HAy.out.gr HX.out)
    have HAqt := hid (HAqt.out.gr HX.out)
    clear k15_c00 k15_c01 k15_c02 k15_c10 k15_c11 k15_c12 k15_c80 k15_c81 k15_c82 k15_c90 k15_c91 k15_c92 HX
    have n7_c70 : W4.cell? ⟨w9.heap.size, 0, none⟩ = some (.bool s7) := b1.c 0 rfl
    have n7_c71 : W4.cell? ⟨w9.heap.size, 1, none⟩ = some (.slice A7 l7 c7) := b1.c 1 rfl
    have n7_c72 : W4.cell? ⟨w9.heap.size, 2, none⟩ = some (.slice B7 m7 e7) := b1.c 2 rfl
    clear b1
    go_region_held3 (fun V => V.cell? ⟨W.heap.size, 0, none⟩ = some (.bool s0) ∧ V.cell? ⟨W.heap.size, 1, none⟩ = some (.slice A0 l0 c0) ∧ V.cell? ⟨W.heap.size, 2, none⟩ = some (.slice B0 m0 e0) ∧ V.cell? ⟨W.heap.size + 1, 0, none⟩ = some (.bool s1) ∧ V.cell? ⟨W.heap.size + 1, 1, none⟩ = some (.slice A1 l1 c1) ∧ V.cell? ⟨W.heap.size + 1, 2, none⟩ = some (.slice B1 m1 e1) ∧ V.cell? ⟨g1, 0, none⟩ = some (.bool s8) ∧ V.cell? ⟨g1, 1, none⟩ = some (.slice A8 l8 c8) ∧ V.cell? ⟨g1, 2, none⟩ = some (.slice B8 m8 e8) ∧ V.cell? ⟨g2, 0, none⟩ = some (.bool s9) ∧ V.cell? ⟨g2, 1, none⟩ = some (.slice A9 l9 c9) ∧ V.cell? ⟨g2, 2, none⟩ = some (.slice B9 m9 e9) ∧ V.cell? ⟨w9.heap.size, 0, none⟩ = some (.bool s7) ∧ V.cell? ⟨w9.heap.size, 1, none⟩ = some (.slice A7 l7 c7) ∧ V.cell? ⟨w9.heap.size, 2, none⟩ = some (.slice B7 m7 e7))
      (first
        | exact ⟨k16_c00, k16_c01, k16_c02, k16_c10, k16_c11, k16_c12, k16_c80, k16_c81, k16_c82, k16_c90, k16_c91, k16_c92, n7_c70, n7_c71, n7_c72⟩
        | with_reducible exact ⟨Gr.cell HX1.out k16_c00, Gr.cell HX1.out k16_c01, Gr.cell HX1.out k16_c02, Gr.cell HX1.out k16_c10, Gr.cell HX1.out k16_c11, Gr.cell HX1.out k16_c12, Gr.cell HX1.out k16_c80, Gr.cell HX1.out k16_c81, Gr.cell HX1.out k16_c82, Gr.cell HX1.out k16_c90, Gr.cell HX1.out k16_c91, Gr.cell HX1.out k16_c92, Gr.cell HX1.out n7_c70, Gr.cell HX1.out n7_c71, Gr.cell HX1.out n7_c72⟩
        | with_reducible exact ⟨Gr.cell HX2.out k16_c00, Gr.cell HX2.out k16_c01, Gr.cell HX2.out k16_c02, Gr.cell HX2.out k16_c10, Gr.cell HX2.out k16_c11, Gr.cell HX2.out k16_c12, Gr.cell HX2.out k16_c80, Gr.cell HX2.out k16_c81, Gr.cell HX2.out k16_c82, Gr.cell HX2.out k16_c90, Gr.cell HX2.out k16_c91, Gr.cell HX2.out k16_c92, Gr.cell HX2.out n7_c70, Gr.cell HX2.out n7_c71, Gr.cell HX2.out n7_c72⟩
        | with_reducible exact ⟨Gr.cell HX3.out k16_c00, Gr.cell HX3.out k16_c01, Gr.cell HX3.out k16_c02, Gr.cell HX3.out k16_c10, Gr.cell HX3.out k16_c11, Gr.cell HX3.out k16_c12, Gr.cell HX3.out k16_c80, Gr.cell HX3.out k16_c81, Gr.cell HX3.out k16_c82, Gr.cell HX3.out k16_c90, Gr.cell HX3.out k16_c91, Gr.cell HX3.out k16_c92, Gr.cell HX3.out n7_c70, Gr.cell HX3.out n7_c71, Gr.cell HX3.out n7_c72⟩)
      (first
        | (go_at_call 12; refine (HSM.out x2 _ _ _ _ ((HAx.out.gr HX2.out).le (by decide)) ((HAy.out.gr HX2.out).le (by decide))).mono ?_; rintro e w10 ⟨rfl, hg⟩; have HX3 := hid (HX2.out.trans hg); clear hg)
        | (go_at_call 18; refine (HCK.out x1 _ _ ((HAp.out.gr HX1.out).le (by decide)) ((HAq.out.gr HX1.out).le (by decide))).mono ?_; rintro e x2 ⟨rfl, hg⟩; have HX2 := hid (HX1.out.trans hg); clear hg)
        | (go_at_call 32; refine (normal_c _ _ _ (p / q) 80 ((HAqt.out.gr ((Gr.refl W4).drew)).le (by decide)) (by decide)).mono ?_; rintro e x1 ⟨rfl, hg⟩; have HX1 := hid (((Gr.refl W4).drew).trans hg); clear hg))
    have k17_c00 := Gr.cell HX3.out k16_c00
    have k17_c01 := Gr.cell HX3.out k16_c01
    have k17_c02 := Gr.cell HX3.out k16_c02
    have k17_c10 := Gr.cell HX3.out k16_c10
    have k17_c11 := Gr.cell HX3.out k16_c11
    have k17_c12 := Gr.cell HX3.out k16_c12
    have k17_c80 := Gr.cell HX3.out k16_c80
    have k17_c81 := Gr.cell HX3.out k16_c81
    have k17_c82 := Gr.cell HX3.out k16_c82
    have k17_c90 := Gr.cell HX3.out k16_c90
    have k17_c91 := Gr.cell HX3.out k16_c91
    have k17_c92 := Gr.cell HX3.out k16_c92
    have k17_c70 := Gr.cell HX3.out n7_c70
    have k17_c71 := Gr.cell HX3.out n7_c71
    have k17_c72 := Gr.cell HX3.out n7_c72
    have HG := hid (HG.out.trans HX3.out)
    have HAp := hid (HAp.out.gr HX3.out)
    have HAq := hid (HAq.out.gr HX3.out)
    have HAx := hid (HAx.out.gr HX3.out)
    have HAy := hid (HAy.out.gr HX3.out)
    have HAqt := hid (HAqt.out.gr HX3.out)
    clear k16_c00 k16_c01 k16_c02 k16_c10 k16_c11 k16_c12 k16_c80 k16_c81 k16_c82 k16_c90 k16_c91 k16_c92 n7_c70 n7_c71 n7_c72 HX1 HX2 HX3
    go_wp2
    go_ret
    exact ⟨rfl, HG.out⟩
end Go.Proofs.Ytkbgdiejjabdmaa
