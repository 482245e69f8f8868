/- The walk of the law IntegerDivision. -/
import Derived.Test.YtkbgdiejjabdmaaDoorZp
import Derived.Test.YtkbgdiejjabdmaaDoorIntD
import Derived.Test.YtkbgdiejjabdmaaDoorIzW
import Derived.Deep.Cut
import Derived.Deep.RegionHeld3
namespace Go.Proofs.YtkbgdiejjabdmaaDoor
open Go.RowKit

set_option maxRecDepth 100000 in
set_option maxHeartbeats 16000000 in
theorem integerdivision_law (W : World) (ht : Tab W) {s1 : Bool} {A1 : Option Addr} {l1 c1 n1 : Nat} (h1 : AN W (.slice A1 l1 c1) n1 1048576) {s2 : Bool} {A2 : Option Addr} {l2 c2 n2 : Nat} (h2 : AN W (.slice A2 l2 c2) n2 1048576) : Calls Tryd.prog 15 #[.agg #[.bool s1, .slice A1 l1 c1], .agg #[.bool s2, .slice A2 l2 c2]] W (Is W (.bool true)) := by
  have HT := hid ht
  obtain ⟨a, hz1⟩ : ∃ z, z = sgnd s1 n1 := ⟨_, rfl⟩
  have KA : Hid (AZ W (.agg #[.bool s1, .slice A1 l1 c1]) a 1048576) := ⟨s1, _, n1, rfl, h1, hz1⟩
  obtain ⟨b, hz2⟩ : ∃ z, z = sgnd s2 n2 := ⟨_, rfl⟩
  have KB : Hid (AZ W (.agg #[.bool s2, .slice A2 l2 c2]) b 1048576) := ⟨s2, _, n2, rfl, h2, hz2⟩
  obtain ⟨sb, hsb⟩ : ∃ k, k = b.sign := ⟨_, rfl⟩
  obtain ⟨r, hr⟩ : ∃ k, k = a.fmod b := ⟨_, rfl⟩
  obtain ⟨sr, hsr⟩ : ∃ k, k = r.sign := ⟨_, rfl⟩
  have HGB : Hid (∀ (V : World) (u : Value), AZ V u (b) 1048576 → Calls Tryd.prog 60 #[u] V (Is V (.int .i64 sb))) := fun V u h1 => by
    have h := sign_c V u _ 1048576 h1 (by decide)
    rw [← hsb] at h
    exact h
  clear ht h1 h2 hz1 hz2
  by_cases hb0 : b = 0
  · have hs0 : sb = 0 := by rw [hsb, hb0]; rfl
    have HB0 := hid hb0
    have e1 : (sb == 0) = true := by rw [hs0]; rfl
    clear hsb hr hsr hb0 hs0
    go_enter Tryd.func15, Tryd.ntmps15
    go_upto_region 1 with (fail)
    obtain ⟨W0, hW⟩ : ∃ V, V = (W.alloc (.cells #[.bool s1, .slice A1 l1 c1] 51)).alloc (.cells #[.bool s2, .slice A2 l2 c2] 51) := ⟨_, rfl⟩
    obtain ⟨hg, bb0, bb1⟩ := al2 W #[.bool s1, .slice A1 l1 c1] #[.bool s2, .slice A2 l2 c2] 51 51
    rw [← hW] at hg bb0 bb1 ⊢
    clear hW
    have c10 : W0.cell? ⟨W.heap.size, 0, none⟩ = some (.bool s1) := bb0.c 0 rfl
    have c11 : W0.cell? ⟨W.heap.size, 1, none⟩ = some (.slice A1 l1 c1) := bb0.c 1 rfl
    have KA := hid (KA.out.gr hg)
    have c20 : W0.cell? ⟨W.heap.size + 1, 0, none⟩ = some (.bool s2) := bb1.c 0 rfl
    have c21 : W0.cell? ⟨W.heap.size + 1, 1, none⟩ = some (.slice A2 l2 c2) := bb1.c 1 rfl
    have KB := hid (KB.out.gr hg)
    have HG := hid hg
    clear hg bb0 bb1
    go_wp2_with fail
    refine (zdivmod_c0 W0 _ _ a b 1048576 KA.out KB.out (by decide) HB0.out).mono ?_
    rintro e w1 ⟨u, v, rfl, ⟨rfl, rfl⟩, hg⟩
    have k1_c10 := Gr.cell hg c10
    have k1_c11 := Gr.cell hg c11
    have k1_c20 := Gr.cell hg c20
    have k1_c21 := Gr.cell hg c21
    clear c10 c11 c20 c21
    replace KA := hid (KA.out.gr hg)
    replace KB := hid (KB.out.gr hg)
    replace HG := hid (HG.out.trans hg)
    clear hg
    obtain ⟨W1, hW⟩ : ∃ V, V = (w1.alloc (.cells #[.bool false, .slice none 0 0] 51)).alloc (.cells #[.bool false, .slice none 0 0] 51) := ⟨_, rfl⟩
    go_upto_region 2 with (fail)
    obtain ⟨hg, bb0, bb1⟩ := al2 w1 #[.bool false, .slice none 0 0] #[.bool false, .slice none 0 0] 51 51
    rw [← hW] at hg bb0 bb1 ⊢
    clear hW
    have k2_c10 := Gr.cell hg k1_c10
    have k2_c11 := Gr.cell hg k1_c11
    have k2_c20 := Gr.cell hg k1_c20
    have k2_c21 := Gr.cell hg k1_c21
    clear k1_c10 k1_c11 k1_c20 k1_c21
    replace KA := hid (KA.out.gr hg)
    replace KB := hid (KB.out.gr hg)
    replace HG := hid (HG.out.trans hg)
    have cq00 : W1.cell? ⟨w1.heap.size, 0, none⟩ = some (.bool false) := bb0.c 0 rfl
    have cq01 : W1.cell? ⟨w1.heap.size, 1, none⟩ = some (.slice none 0 0) := bb0.c 1 rfl
    have cq10 : W1.cell? ⟨w1.heap.size + 1, 0, none⟩ = some (.bool false) := bb1.c 0 rfl
    have cq11 : W1.cell? ⟨w1.heap.size + 1, 1, none⟩ = some (.slice none 0 0) := bb1.c 1 rfl
    clear hg bb0 bb1
    go_wp2_with fail
    refine (HGB.out W1 _ KB.out).mono ?_
    rintro e w2 ⟨rfl, hg⟩
    have k3_c10 := Gr.cell hg k2_c10
    have k3_c11 := Gr.cell hg k2_c11
    have k3_c20 := Gr.cell hg k2_c20
    have k3_c21 := Gr.cell hg k2_c21
    have k3_cq00 := Gr.cell hg cq00
    have k3_cq01 := Gr.cell hg cq01
    have k3_cq10 := Gr.cell hg cq10
    have k3_cq11 := Gr.cell hg cq11
    clear k2_c10 k2_c11 k2_c20 k2_c21 cq00 cq01 cq10 cq11
    replace KA := hid (KA.out.gr hg)
    replace KB := hid (KB.out.gr hg)
    replace HG := hid (HG.out.trans hg)
    clear hg
    go_wp2_with fail
    refine (zsame_t w2 0 0 _ _ 0 1 (VZ.zero' _ _ _) (VZ.zero' _ _ _) (by decide)).mono ?_
    rintro e w3 ⟨rfl, hg⟩
    have k4_c10 := Gr.cell hg k3_c10
    have k4_c11 := Gr.cell hg k3_c11
    have k4_c20 := Gr.cell hg k3_c20
    have k4_c21 := Gr.cell hg k3_c21
    have k4_cq00 := Gr.cell hg k3_cq00
    have k4_cq01 := Gr.cell hg k3_cq01
    have k4_cq10 := Gr.cell hg k3_cq10
    have k4_cq11 := Gr.cell hg k3_cq11
    clear k3_c10 k3_c11 k3_c20 k3_c21 k3_cq00 k3_cq01 k3_cq10 k3_cq11
    replace KA := hid (KA.out.gr hg)
    replace KB := hid (KB.out.gr hg)
    replace HG := hid (HG.out.trans hg)
    clear hg
    go_wp2_with fail
    refine (zsame_t w3 0 0 _ _ 0 1 (VZ.zero' _ _ _) (VZ.zero' _ _ _) (by decide)).mono ?_
    rintro e w4 ⟨rfl, hg⟩
    have k5_c10 := Gr.cell hg k4_c10
    have k5_c11 := Gr.cell hg k4_c11
    have k5_c20 := Gr.cell hg k4_c20
    have k5_c21 := Gr.cell hg k4_c21
    have k5_cq00 := Gr.cell hg k4_cq00
    have k5_cq01 := Gr.cell hg k4_cq01
    have k5_cq10 := Gr.cell hg k4_cq10
    have k5_cq11 := Gr.cell hg k4_cq11
    clear k4_c10 k4_c11 k4_c20 k4_c21 k4_cq00 k4_cq01 k4_cq10 k4_cq11
    replace KA := hid (KA.out.gr hg)
    replace KB := hid (KB.out.gr hg)
    replace HG := hid (HG.out.trans hg)
    clear hg
    go_wp2_with fail
    refine (awake2_c w4 (HT.out.gr HG.out)).mono ?_
    rintro e w5 ⟨rfl, hg⟩
    have k6_c10 := Gr.cell hg k5_c10
    have k6_c11 := Gr.cell hg k5_c11
    have k6_c20 := Gr.cell hg k5_c20
    have k6_c21 := Gr.cell hg k5_c21
    have k6_cq00 := Gr.cell hg k5_cq00
    have k6_cq01 := Gr.cell hg k5_cq01
    have k6_cq10 := Gr.cell hg k5_cq10
    have k6_cq11 := Gr.cell hg k5_cq11
    clear k5_c10 k5_c11 k5_c20 k5_c21 k5_cq00 k5_cq01 k5_cq10 k5_cq11
    replace KA := hid (KA.out.gr hg)
    replace KB := hid (KB.out.gr hg)
    replace HG := hid (HG.out.trans hg)
    clear hg
    go_wp2
    go_ret
    exact ⟨rfl, HG.out⟩
  · have hs0 : sb ≠ 0 := by rw [hsb]; intro h; exact hb0 (Int.sign_eq_zero_iff_zero.1 h)
    have e1 : (sb == 0) = false := by rw [beq_eq_false_iff_ne]; exact hs0
    have hbr : -1 ≤ sb ∧ sb ≤ 1 := by rw [hsb]; exact sign_rngZ b
    have HSG : Hid (r ≠ 0 → sr = sb ∧ cmpZ r b = -sb) := fun h => by
      have h2 := fmod_signs (a := a) hb0 (by rw [← hr]; exact h)
      rw [← hr] at h2
      rw [hsr, hsb]
      exact h2
    have HSZ : Hid (sr = 0 ↔ r = 0) := by
      unfold Hid; rw [hsr]; exact Int.sign_eq_zero_iff_zero
    have hneg : IntKind.i64.wrap (-sb) = -sb := IntWalk.i64_in _ (by omega)
    have HEQ : Hid (b * a.fdiv b + r = a) := by unfold Hid; rw [hr]; exact Int.mul_fdiv_add_fmod a b
    have HDM : Hid (∀ (V : World) (u v : Value), AZ V u a 1048576 → AZ V v b 1048576 → Calls Tryd.prog 68 #[u, v] V (RetVB V true fun x y w' => VZ w' V.heap.size x (a.fdiv b) 1048577 ∧ VZ w' V.heap.size y r 1048576)) := fun V u v h1 h2 => by
      have h := zdivmod_c V u v a b 1048576 h1 h2 (by decide) hb0
      rw [← hr] at h
      exact h
    have HSE : Hid (∀ (V : World) (b1 b2 : Nat) (u v : Value), VZ V b1 u (b * a.fdiv b + r) 2097154 → VZ V b2 v a 1048576 → Calls Tryd.prog 52 #[u, v] V (Is V (.bool true))) := fun V b1 b2 u v h1 h2 => by
      rw [HEQ.out] at h1
      exact zsame_t V b1 b2 u v a 2097154 h1 (h2.le (by decide)) (by decide)
    have HGR : Hid (∀ (V : World) (u : Value), AZ V u (r) 1048576 → Calls Tryd.prog 60 #[u] V (Is V (.int .i64 sr))) := fun V u h1 => by
      have h := sign_c V u _ 1048576 h1 (by decide)
      rw [← hsr] at h
      exact h
    obtain ⟨Q, hQ⟩ : ∃ q, q = a.fdiv b := ⟨_, rfl⟩
    rw [← hQ] at HSE HDM
    clear hsb hr hsr hb0 hs0 hbr hQ HEQ
    go_enter Tryd.func15, Tryd.ntmps15
    go_upto_region 1 with (fail)
    obtain ⟨W0, hW⟩ : ∃ V, V = (W.alloc (.cells #[.bool s1, .slice A1 l1 c1] 51)).alloc (.cells #[.bool s2, .slice A2 l2 c2] 51) := ⟨_, rfl⟩
    obtain ⟨hg, bb0, bb1⟩ := al2 W #[.bool s1, .slice A1 l1 c1] #[.bool s2, .slice A2 l2 c2] 51 51
    rw [← hW] at hg bb0 bb1 ⊢
    clear hW
    have c10 : W0.cell? ⟨W.heap.size, 0, none⟩ = some (.bool s1) := bb0.c 0 rfl
    have c11 : W0.cell? ⟨W.heap.size, 1, none⟩ = some (.slice A1 l1 c1) := bb0.c 1 rfl
    have KA := hid (KA.out.gr hg)
    have c20 : W0.cell? ⟨W.heap.size + 1, 0, none⟩ = some (.bool s2) := bb1.c 0 rfl
    have c21 : W0.cell? ⟨W.heap.size + 1, 1, none⟩ = some (.slice A2 l2 c2) := bb1.c 1 rfl
    have KB := hid (KB.out.gr hg)
    have HG := hid hg
    clear hg bb0 bb1
    go_wp2_with fail
    refine (HDM.out W0 _ _ KA.out KB.out).mono ?_
    rintro e w1 ⟨v1, v2, rfl, ⟨hv1, hv2⟩, hg⟩
    have k1_c10 := Gr.cell hg c10
    have k1_c11 := Gr.cell hg c11
    have k1_c20 := Gr.cell hg c20
    have k1_c21 := Gr.cell hg c21
    clear c10 c11 c20 c21
    replace KA := hid (KA.out.gr hg)
    replace KB := hid (KB.out.gr hg)
    replace HG := hid (HG.out.trans hg)
    clear hg
    obtain ⟨Aq, lq, cq, rfl, hv1⟩ := hv1.form
    obtain ⟨bsq, hs⟩ : ∃ y0, y0 = decide ((Q : Int) < 0) := ⟨_, rfl⟩
    rw [← hs] at hv1 ⊢
    clear hs
    have KQ := hid hv1
    clear hv1
    obtain ⟨Ar, lr, cr, rfl, hv2⟩ := hv2.form
    obtain ⟨bsr, hs⟩ : ∃ y0, y0 = decide ((r : Int) < 0) := ⟨_, rfl⟩
    rw [← hs] at hv2 ⊢
    clear hs
    have KR := hid hv2
    clear hv2
    obtain ⟨W1, hW⟩ : ∃ V, V = (w1.alloc (.cells #[.bool bsq, .slice Aq lq cq] 51)).alloc (.cells #[.bool bsr, .slice Ar lr cr] 51) := ⟨_, rfl⟩
    go_upto_region 2 with (fail)
    obtain ⟨hg, bb0, bb1⟩ := al2 w1 #[.bool bsq, .slice Aq lq cq] #[.bool bsr, .slice Ar lr cr] 51 51
    rw [← hW] at hg bb0 bb1 ⊢
    clear hW
    have k2_c10 := Gr.cell hg k1_c10
    have k2_c11 := Gr.cell hg k1_c11
    have k2_c20 := Gr.cell hg k1_c20
    have k2_c21 := Gr.cell hg k1_c21
    clear k1_c10 k1_c11 k1_c20 k1_c21
    replace KA := hid (KA.out.gr hg)
    replace KB := hid (KB.out.gr hg)
    replace KQ := hid (KQ.out.gr hg)
    replace KR := hid (KR.out.gr hg)
    replace HG := hid (HG.out.trans hg)
    have cq0 : W1.cell? ⟨w1.heap.size, 0, none⟩ = some (.bool bsq) := bb0.c 0 rfl
    have cq1 : W1.cell? ⟨w1.heap.size, 1, none⟩ = some (.slice Aq lq cq) := bb0.c 1 rfl
    have cr0 : W1.cell? ⟨w1.heap.size + 1, 0, none⟩ = some (.bool bsr) := bb1.c 0 rfl
    have cr1 : W1.cell? ⟨w1.heap.size + 1, 1, none⟩ = some (.slice Ar lr cr) := bb1.c 1 rfl
    clear hg bb0 bb1
    go_wp2_with fail
    refine (HGB.out W1 _ KB.out).mono ?_
    rintro e w2 ⟨rfl, hg⟩
    have k3_c10 := Gr.cell hg k2_c10
    have k3_c11 := Gr.cell hg k2_c11
    have k3_c20 := Gr.cell hg k2_c20
    have k3_c21 := Gr.cell hg k2_c21
    have k3_cq0 := Gr.cell hg cq0
    have k3_cq1 := Gr.cell hg cq1
    have k3_cr0 := Gr.cell hg cr0
    have k3_cr1 := Gr.cell hg cr1
    clear k2_c10 k2_c11 k2_c20 k2_c21 cq0 cq1 cr0 cr1
    replace KA := hid (KA.out.gr hg)
    replace KB := hid (KB.out.gr hg)
    replace KQ := hid (KQ.out.gr hg)
    replace KR := hid (KR.out.gr hg)
    replace HG := hid (HG.out.trans hg)
    clear hg
    go_wp2
    go_region_held3 (fun V => V.cell? ⟨W.heap.size, 0, none⟩ = some (.bool s1) ∧ V.cell? ⟨W.heap.size, 1, none⟩ = some (.slice A1 l1 c1) ∧ V.cell? ⟨W.heap.size + 1, 0, none⟩ = some (.bool s2) ∧ V.cell? ⟨W.heap.size + 1, 1, none⟩ = some (.slice A2 l2 c2) ∧ V.cell? ⟨w1.heap.size, 0, none⟩ = some (.bool bsq) ∧ V.cell? ⟨w1.heap.size, 1, none⟩ = some (.slice Aq lq cq) ∧ V.cell? ⟨w1.heap.size + 1, 0, none⟩ = some (.bool bsr) ∧ V.cell? ⟨w1.heap.size + 1, 1, none⟩ = some (.slice Ar lr cr))
      (first
        | exact ⟨k3_c10, k3_c11, k3_c20, k3_c21, k3_cq0, k3_cq1, k3_cr0, k3_cr1⟩
        | with_reducible exact ⟨Gr.cell HX1.out k3_c10, Gr.cell HX1.out k3_c11, Gr.cell HX1.out k3_c20, Gr.cell HX1.out k3_c21, Gr.cell HX1.out k3_cq0, Gr.cell HX1.out k3_cq1, Gr.cell HX1.out k3_cr0, Gr.cell HX1.out k3_cr1⟩
        | with_reducible exact ⟨Gr.cell HX2.out k3_c10, Gr.cell HX2.out k3_c11, Gr.cell HX2.out k3_c20, Gr.cell HX2.out k3_c21, Gr.cell HX2.out k3_cq0, Gr.cell HX2.out k3_cq1, Gr.cell HX2.out k3_cr0, Gr.cell HX2.out k3_cr1⟩
        | with_reducible exact ⟨Gr.cell HX3.out k3_c10, Gr.cell HX3.out k3_c11, Gr.cell HX3.out k3_c20, Gr.cell HX3.out k3_c21, Gr.cell HX3.out k3_cq0, Gr.cell HX3.out k3_cq1, Gr.cell HX3.out k3_cr0, Gr.cell HX3.out k3_cr1⟩
        | with_reducible exact ⟨Gr.cell HX4.out k3_c10, Gr.cell HX4.out k3_c11, Gr.cell HX4.out k3_c20, Gr.cell HX4.out k3_c21, Gr.cell HX4.out k3_cq0, Gr.cell HX4.out k3_cq1, Gr.cell HX4.out k3_cr0, Gr.cell HX4.out k3_cr1⟩)
      (first
        | (go_at_call 52; refine (HSE.out x3 _ _ _ _ HV2_3.out HV3_3.out).mono ?_; rintro e w3 ⟨rfl, hg⟩; have HX4 := hid (HX3.out.trans hg); clear hg)
        | (go_at_call 58; refine (znorm_c x2 _ a 1048576 (KA.out.gr HX2.out) (by decide)).mono ?_; rintro e x3 ⟨g3, rfl, hv, hg⟩; have HX3 := hid (HX2.out.trans hg); have HV3_3 := hid hv; have HV2_3 := hid (HV2_2.out.gr hg); clear hv hg)
        | (go_at_call 69; refine (zadd_c x1 _ _ (b * Q) r 2097153 HV1_1.out.az ((KR.out.gr HX1.out).az.le (by decide)) (by decide)).mono ?_; rintro e x2 ⟨g2, rfl, hv, hg⟩; have HX2 := hid (HX1.out.trans hg); have HV2_2 := hid hv; clear hv hg)
        | (go_at_call 70; refine (zmul_c _ _ _ b Q 1048576 1048577 (KB.out.gr ((Gr.refl w2).drew)) (KQ.out.gr ((Gr.refl w2).drew)).az (by decide) (by decide)).mono ?_; rintro e x1 ⟨g1, rfl, hv, hg⟩; have HX1 := hid (((Gr.refl w2).drew).trans hg); have HV1_1 := hid hv; clear hv hg))
    have k4_c10 := Gr.cell HX4.out k3_c10
    have k4_c11 := Gr.cell HX4.out k3_c11
    have k4_c20 := Gr.cell HX4.out k3_c20
    have k4_c21 := Gr.cell HX4.out k3_c21
    have k4_cq0 := Gr.cell HX4.out k3_cq0
    have k4_cq1 := Gr.cell HX4.out k3_cq1
    have k4_cr0 := Gr.cell HX4.out k3_cr0
    have k4_cr1 := Gr.cell HX4.out k3_cr1
    clear k3_c10 k3_c11 k3_c20 k3_c21 k3_cq0 k3_cq1 k3_cr0 k3_cr1
    replace KA := hid (KA.out.gr HX4.out)
    replace KB := hid (KB.out.gr HX4.out)
    replace KQ := hid (KQ.out.gr HX4.out)
    replace KR := hid (KR.out.gr HX4.out)
    replace HG := hid (HG.out.trans HX4.out)
    clear HX1 HX2 HX3 HX4
    go_wp2_with fail
    refine (HGR.out w3 _ KR.out.az).mono ?_
    rintro e w4 ⟨rfl, hg⟩
    have k5_c10 := Gr.cell hg k4_c10
    have k5_c11 := Gr.cell hg k4_c11
    have k5_c20 := Gr.cell hg k4_c20
    have k5_c21 := Gr.cell hg k4_c21
    have k5_cq0 := Gr.cell hg k4_cq0
    have k5_cq1 := Gr.cell hg k4_cq1
    have k5_cr0 := Gr.cell hg k4_cr0
    have k5_cr1 := Gr.cell hg k4_cr1
    clear k4_c10 k4_c11 k4_c20 k4_c21 k4_cq0 k4_cq1 k4_cr0 k4_cr1
    replace KA := hid (KA.out.gr hg)
    replace KB := hid (KB.out.gr hg)
    replace KQ := hid (KQ.out.gr hg)
    replace KR := hid (KR.out.gr hg)
    replace HG := hid (HG.out.trans hg)
    clear hg
    by_cases hr0 : r = 0
    · have e2 : (sr == 0) = true := by rw [HSZ.out.2 hr0]; rfl
      clear hr0
      go_wp2_with fail
      refine (awake2_c w4 (HT.out.gr HG.out)).mono ?_
      rintro e w5 ⟨rfl, hg⟩
      have k6_c10 := Gr.cell hg k5_c10
      have k6_c11 := Gr.cell hg k5_c11
      have k6_c20 := Gr.cell hg k5_c20
      have k6_c21 := Gr.cell hg k5_c21
      have k6_cq0 := Gr.cell hg k5_cq0
      have k6_cq1 := Gr.cell hg k5_cq1
      have k6_cr0 := Gr.cell hg k5_cr0
      have k6_cr1 := Gr.cell hg k5_cr1
      clear k5_c10 k5_c11 k5_c20 k5_c21 k5_cq0 k5_cq1 k5_cr0 k5_cr1
      replace KA := hid (KA.out.gr hg)
      replace KB := hid (KB.out.gr hg)
      replace KQ := hid (KQ.out.gr hg)
      replace KR := hid (KR.out.gr hg)
      replace HG := hid (HG.out.trans hg)
      clear hg
      go_wp2
      go_ret
      exact ⟨rfl, HG.out⟩
    · have e2 : (sr == 0) = false := by rw [beq_eq_false_iff_ne]; exact fun h => hr0 (HSZ.out.1 h)
      obtain ⟨g1, g2⟩ := HSG.out hr0
      have e3 : (sr == sb) = true := by rw [beq_iff_eq]; exact g1
      have e4 : (-sb == -sb) = true := by simp
      have HCR : Hid (∀ (V : World) (u v : Value), AZ V u (r) 1048576 → AZ V v (b) 1048576 → Calls Tryd.prog 71 #[u, v] V (Is V (.int .i64 (-sb)))) := fun V u v h1 h2 => by
        have h := zcmp_c V u v _ _ 1048576 1048576 h1 h2 (by decide) (by decide)
        rw [g2] at h
        exact h
      clear g1 g2 hr0
      go_wp2
      go_region_held3 (fun V => V.cell? ⟨W.heap.size, 0, none⟩ = some (.bool s1) ∧ V.cell? ⟨W.heap.size, 1, none⟩ = some (.slice A1 l1 c1) ∧ V.cell? ⟨W.heap.size + 1, 0, none⟩ = some (.bool s2) ∧ V.cell? ⟨W.heap.size + 1, 1, none⟩ = some (.slice A2 l2 c2) ∧ V.cell? ⟨w1.heap.size, 0, none⟩ = some (.bool bsq) ∧ V.cell? ⟨w1.heap.size, 1, none⟩ = some (.slice Aq lq cq) ∧ V.cell? ⟨w1.heap.size + 1, 0, none⟩ = some (.bool bsr) ∧ V.cell? ⟨w1.heap.size + 1, 1, none⟩ = some (.slice Ar lr cr))
        (first
          | exact ⟨k5_c10, k5_c11, k5_c20, k5_c21, k5_cq0, k5_cq1, k5_cr0, k5_cr1⟩
          | with_reducible exact ⟨Gr.cell HX1.out k5_c10, Gr.cell HX1.out k5_c11, Gr.cell HX1.out k5_c20, Gr.cell HX1.out k5_c21, Gr.cell HX1.out k5_cq0, Gr.cell HX1.out k5_cq1, Gr.cell HX1.out k5_cr0, Gr.cell HX1.out k5_cr1⟩
          | with_reducible exact ⟨Gr.cell HX2.out k5_c10, Gr.cell HX2.out k5_c11, Gr.cell HX2.out k5_c20, Gr.cell HX2.out k5_c21, Gr.cell HX2.out k5_cq0, Gr.cell HX2.out k5_cq1, Gr.cell HX2.out k5_cr0, Gr.cell HX2.out k5_cr1⟩
          | with_reducible exact ⟨Gr.cell HX3.out k5_c10, Gr.cell HX3.out k5_c11, Gr.cell HX3.out k5_c20, Gr.cell HX3.out k5_c21, Gr.cell HX3.out k5_cq0, Gr.cell HX3.out k5_cq1, Gr.cell HX3.out k5_cr0, Gr.cell HX3.out k5_cr1⟩
          | with_reducible exact ⟨Gr.cell HX4.out k5_c10, Gr.cell HX4.out k5_c11, Gr.cell HX4.out k5_c20, Gr.cell HX4.out k5_c21, Gr.cell HX4.out k5_cq0, Gr.cell HX4.out k5_cq1, Gr.cell HX4.out k5_cr0, Gr.cell HX4.out k5_cr1⟩
          | with_reducible exact ⟨Gr.cell HX5.out k5_c10, Gr.cell HX5.out k5_c11, Gr.cell HX5.out k5_c20, Gr.cell HX5.out k5_c21, Gr.cell HX5.out k5_cq0, Gr.cell HX5.out k5_cq1, Gr.cell HX5.out k5_cr0, Gr.cell HX5.out k5_cr1⟩)
        (first
          | (go_at_call 55; refine (awake2_c x4 (HT.out.gr (HG.out.trans HX4.out))).mono ?_; rintro e w6 ⟨rfl, hg⟩; have HX5 := hid (HX4.out.trans hg); clear hg)
          | (go_at_call 60; refine (HGB.out x3 _ (KB.out.gr HX3.out)).mono ?_; rintro e x4 ⟨rfl, hg⟩; have HX4 := hid (HX3.out.trans hg); clear hg)
          | (go_at_call 71; refine (HCR.out x2 _ _ (KR.out.gr HX2.out).az (KB.out.gr HX2.out)).mono ?_; rintro e x3 ⟨rfl, hg⟩; have HX3 := hid (HX2.out.trans hg); clear hg)
          | (go_at_call 60; refine (HGB.out x1 _ (KB.out.gr HX1.out)).mono ?_; rintro e x2 ⟨rfl, hg⟩; have HX2 := hid (HX1.out.trans hg); clear hg)
          | (go_at_call 60; refine (HGR.out _ _ (KR.out.gr ((Gr.refl w4).drew)).az).mono ?_; rintro e x1 ⟨rfl, hg⟩; have HX1 := hid (((Gr.refl w4).drew).trans hg); clear hg))
      have k6_c10 := Gr.cell HX5.out k5_c10
      have k6_c11 := Gr.cell HX5.out k5_c11
      have k6_c20 := Gr.cell HX5.out k5_c20
      have k6_c21 := Gr.cell HX5.out k5_c21
      have k6_cq0 := Gr.cell HX5.out k5_cq0
      have k6_cq1 := Gr.cell HX5.out k5_cq1
      have k6_cr0 := Gr.cell HX5.out k5_cr0
      have k6_cr1 := Gr.cell HX5.out k5_cr1
      clear k5_c10 k5_c11 k5_c20 k5_c21 k5_cq0 k5_cq1 k5_cr0 k5_cr1
      replace KA := hid (KA.out.gr HX5.out)
      replace KB := hid (KB.out.gr HX5.out)
      replace KQ := hid (KQ.out.gr HX5.out)
      replace KR := hid (KR.out.gr HX5.out)
      replace HG := hid (HG.out.trans HX5.out)
      clear HX1 HX2 HX3 HX4 HX5
      go_wp2
      go_ret
      exact ⟨rfl, HG.out⟩
end Go.Proofs.YtkbgdiejjabdmaaDoor
