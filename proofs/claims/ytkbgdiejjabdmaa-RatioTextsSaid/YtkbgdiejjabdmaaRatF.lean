/- The walks of ratio.Floor and Div. -/
import Derived.Test.YtkbgdiejjabdmaaRatE
import Derived.Deep.Cut
namespace Go.Proofs.Ytkbgdiejjabdmaa
open Go.RowKit

set_option maxHeartbeats 4000000 in
theorem rfloor_c (w : World) (v1 : Value) (q : Rat) (L : Nat) (h1 : AQ w v1 q L) (hL1 : 1 ≤ L) (hL : L ≤ 68719476736) :
    Calls Try.prog 29 #[v1] w (Ret w fun v w' => VZ w' w.heap.size v q.floor (L + 1)) := by
  have HA := hid h1
  obtain ⟨neg, m, d, n, k, rfl, hm1, hd1, hq⟩ := h1
  clear hq hm1 hd1 n k
  obtain ⟨z, hz⟩ : ∃ z, z = q.floor := ⟨_, rfl⟩
  rw [← hz]
  have HF := hid hz
  clear hz
  go_enter Try.func29, Try.ntmps29
  go_wp2_with fail
  obtain ⟨W, hW⟩ : ∃ W, W = (w.alloc (.cells #[.bool neg, m, d] 27)).alloc (.cells #[.bool false, .slice none 0 0] 25) := ⟨_, rfl⟩
  obtain ⟨hg, b0, b1⟩ := al2 w #[.bool neg, m, d] #[.bool false, .slice none 0 0] 27 25
  rw [← hW] at hg b0 b1 ⊢
  clear hW
  have c00 : W.cell? ⟨w.heap.size, 0, none⟩ = some (.bool neg) := b0.c 0 rfl
  have c01 : W.cell? ⟨w.heap.size, 1, none⟩ = some (m) := b0.c 1 rfl
  have c02 : W.cell? ⟨w.heap.size, 2, none⟩ = some (d) := b0.c 2 rfl
  have HB0 := hid b1
  have HG := hid hg
  have HS : Hid (w.heap.size < W.heap.size) := by have h := b1.lt; unfold Hid; omega
  clear hg b0 b1
  refine (parts_c W _ q L (HA.out.gr HG.out) hL1 (by omega)).mono ?_
  rintro e w1 ⟨u, v, rfl, ⟨s1, A1, l1, c1, t1, B1, m1, d1, rfl, rfl, z1, k1, n1, hk, hq, hz, ha, hb, hc⟩, hg⟩
  have hfl : z1.fdiv (k1 : Int) = z := by rw [HF.out, hq, mkRat_floor _ _ hk]
  have hk0 : (k1 : Int) ≠ 0 := by omega
  have HDM : Hid (∀ (V : World) (a b : Value), AZ V a z1 L → AZ V b (k1 : Int) L → Calls Try.prog 62 #[a, b] V (RetVB V true fun u v w' => VZ w' V.heap.size u z (L + 1) ∧ VZ w' V.heap.size v (z1.fmod (k1 : Int)) L)) := by
    intro V a b ha hb
    have h := zdivmod_c V a b z1 (k1 : Int) L ha hb (by omega) hk0
    rw [hfl] at h
    exact h
  have hszw := hg.size
  clear hk hq hfl hk0
  go_wp2_with fail
  obtain ⟨W1, hW⟩ : ∃ W, W = (w1.alloc (.cells #[.bool s1, .slice A1 l1 c1] 25)).alloc (.cells #[.bool t1, .slice B1 m1 d1] 25) := ⟨_, rfl⟩
  obtain ⟨hgl, b0, b1⟩ := al2 w1 #[.bool s1, .slice A1 l1 c1] #[.bool t1, .slice B1 m1 d1] 25 25
  rw [← hW] at hgl b0 b1 ⊢
  clear hW
  have HZ1 := hid (AZ.gr ⟨s1, _, n1, rfl, ha, hz⟩ hgl)
  have HN1 := hid (hb.gr hgl)
  have HD1 := hid (hc.gr hgl)
  have HB10 := hid b0
  have HB11 := hid b1
  have HGL1 := hid (hg.trans hgl)
  have hsz1 := b1.lt
  clear ha hb hc hz hg hgl b0 b1
  refine (HDM.out W1 _ _ HZ1.out HD1.out).mono ?_
  rintro e w2 ⟨u, v, rfl, ⟨hu, hv⟩, hg2⟩
  obtain ⟨Az, nz, cz, rfl, hu⟩ := hu.form
  obtain ⟨Ay, ny, cy, rfl, _⟩ := hv.form
  obtain ⟨bb, hbb⟩ : ∃ b, b = decide (z < 0) := ⟨_, rfl⟩
  obtain ⟨bc, hbc⟩ : ∃ b, b = decide (z1.fmod (k1 : Int) < 0) := ⟨_, rfl⟩
  rw [← hbb] at hu ⊢
  rw [← hbc]
  have HX := hid (HGL1.out.trans hg2)
  have hle : W.heap.size ≤ W1.heap.size := HGL1.out.size
  have HVQ := hid (hu.base (b' := W.heap.size) (by omega))
  have rc00 := (HB0.out.gr HX.out).c 0 rfl
  have rf00 := (HB0.out.gr HX.out).free 0
  have rc01 := (HB0.out.gr HX.out).c 1 rfl
  have rf01 := (HB0.out.gr HX.out).free 1
  have rl0 := (HB0.out.gr HX.out).lt
  clear hu hbb hbc hg2 rc00 rc01 rf00 rf01
  go_upto_region 3 with (fail)
  obtain ⟨V0, hV0⟩ : ∃ V0, V0 = (w2.alloc (.cells #[.bool bb, .slice Az nz cz] 25)).alloc (.cells #[.bool bc, .slice Ay ny cy] 25) := ⟨_, rfl⟩
  have hgv : Gr w2 V0 := by rw [hV0]; exact (Gr.alloc _ _).trans (Gr.alloc _ _)
  have b1 : Blk V0 w2.heap.size #[.bool bb, .slice Az nz cz] 25 := by rw [hV0]; exact (Blk.new w2 _ _).gr (Gr.alloc _ _)
  rw [← hV0]
  clear hV0
  have e00 := b1.c 0 rfl
  have e01 := b1.c 1 rfl
  have r00 := ((HB0.out.gr HX.out).gr hgv).c 0 rfl
  have r01 := ((HB0.out.gr HX.out).gr hgv).c 1 rfl
  have r02 := ((HB0.out.gr HX.out).gr hgv).free 0
  have r03 := ((HB0.out.gr HX.out).gr hgv).free 1
  have r04 := ((HB0.out.gr HX.out).gr hgv).lt
  have HGV := hid hgv
  clear hgv b1
  go_wp2
  have hgv := HGV.out
  refine int_end rfl rfl rfl ((HB0.out.gr HX.out).gr hgv) ?_
  intro V hV
  have l0 := HB0.out.lt
  have a1 := (HVQ.out.gr hgv).exb hV l0
  have a3 := ((HG.out.trans HX.out).trans hgv).ex hV (by omega)
  have a4 := a1.base (b' := w.heap.size) (by omega)
  exact ⟨_, rfl, a4, a3⟩

set_option maxHeartbeats 8000000 in
theorem rdiv_c (w : World) (v1 v2 : Value) (p q : Rat) (L : Nat) (h1 : AQ w v1 p L) (h2 : AQ w v2 q L) (hL1 : 1 ≤ L) (hL : L ≤ 68719476736) :
    Calls Try.prog 26 #[v1, v2] w (RetB w (decide (q ≠ 0)) fun v w' => VQ w' w.heap.size v (p / q) (2 * L)) := by
  have HA1 := hid h1
  have HA2 := hid h2
  obtain ⟨neg1, mm1, dd1, _, _, rfl, _, _, _⟩ := h1
  obtain ⟨neg2, mm2, dd2, _, _, rfl, _, _, _⟩ := h2
  obtain ⟨R, hR⟩ : ∃ R, R = p / q := ⟨_, rfl⟩
  rw [← hR]
  have HR := hid hR
  clear hR
  obtain ⟨bo, hbo⟩ : ∃ b, b = decide (q ≠ 0) := ⟨_, rfl⟩
  rw [← hbo]
  have HBO := hid hbo
  clear hbo
  go_enter Try.func26, Try.ntmps26
  go_wp2_with fail
  obtain ⟨W, hW⟩ : ∃ W, W = ((w.alloc (.cells #[.bool neg1, mm1, dd1] 27)).alloc (.cells #[.bool neg2, mm2, dd2] 27)).alloc (.cells #[.bool false, .slice none 0 0, .slice none 0 0] 27) := ⟨_, rfl⟩
  obtain ⟨hg, b0, b1, b2⟩ := al3 w #[.bool neg1, mm1, dd1] #[.bool neg2, mm2, dd2] #[.bool false, .slice none 0 0, .slice none 0 0] 27 27 27
  rw [← hW] at hg b0 b1 b2 ⊢
  clear hW
  have c00 : W.cell? ⟨w.heap.size, 0, none⟩ = some (.bool neg1) := b0.c 0 rfl
  have c01 : W.cell? ⟨w.heap.size, 1, none⟩ = some (mm1) := b0.c 1 rfl
  have c02 : W.cell? ⟨w.heap.size, 2, none⟩ = some (dd1) := b0.c 2 rfl
  have c10 : W.cell? ⟨w.heap.size + 1, 0, none⟩ = some (.bool neg2) := b1.c 0 rfl
  have c11 : W.cell? ⟨w.heap.size + 1, 1, none⟩ = some (mm2) := b1.c 1 rfl
  have c12 : W.cell? ⟨w.heap.size + 1, 2, none⟩ = some (dd2) := b1.c 2 rfl
  have HB0 := hid b2
  have HG := hid hg
  have HBP := hid b1
  have HS : Hid (w.heap.size < W.heap.size) := by have h := b2.lt; unfold Hid; omega
  clear hg b0 b1 b2
  have hsz0 := HS.out
  have hsz9 := HB0.out.lt
  refine (parts_c W _ p L (HA1.out.gr HG.out) hL1 (by omega)).mono ?_
  rintro e w1 ⟨u, v, rfl, ⟨s1, A1, l1, c1, t1, B1, m1, d1, rfl, rfl, z1, k1, n1, hk, hq, hz, ha, hb, hc⟩, hg⟩
  have HK1 := hid hk
  have HQ1 := hid hq
  have HG1 := hid hg
  clear hk hq
  have hle1 := HG1.out.size
  have x10 := Gr.cell HG1.out c10
  have x11 := Gr.cell HG1.out c11
  have x12 := Gr.cell HG1.out c12
  have y1 : w.heap.size + 1 < w1.heap.size := by have h := HBP.out.lt; omega
  have y2 : w.heap.size + 1 < w1.heap.size + 1 := by omega
  go_wp2_with fail
  obtain ⟨W1, hW⟩ : ∃ W, W = (w1.alloc (.cells #[.bool s1, .slice A1 l1 c1] 25)).alloc (.cells #[.bool t1, .slice B1 m1 d1] 25) := ⟨_, rfl⟩
  obtain ⟨hgl, b0, b1⟩ := al2 w1 #[.bool s1, .slice A1 l1 c1] #[.bool t1, .slice B1 m1 d1] 25 25
  rw [← hW] at hgl b0 b1 ⊢
  clear hW
  have HZ1 := hid (AZ.gr ⟨s1, _, n1, rfl, ha, hz⟩ hgl)
  have HN1 := hid (hb.gr hgl)
  have HD1 := hid (hc.gr hgl)
  have HB10 := hid b0
  have HB11 := hid b1
  have HGL1 := hid (hg.trans hgl)
  have hsz1 := b1.lt
  clear ha hb hc hz hg hgl b0 b1
  refine (parts_c W1 _ q L (HA2.out.gr (HG.out.trans HGL1.out)) hL1 (by omega)).mono ?_
  rintro e w2 ⟨u, v, rfl, ⟨s2, A2, l2, c2, t2, B2, m2, d2, rfl, rfl, z2, k2, n2, hk, hq, hz, ha, hb, hc⟩, hg⟩
  have HK2 := hid hk
  have HQ2 := hid hq
  have HG2 := hid hg
  clear hk hq
  have hle2 := HG2.out.size
  go_wp2
  obtain ⟨W2, hW⟩ : ∃ W, W = (w2.alloc (.cells #[.bool s2, .slice A2 l2 c2] 25)).alloc (.cells #[.bool t2, .slice B2 m2 d2] 25) := ⟨_, rfl⟩
  obtain ⟨hgl, b0, b1⟩ := al2 w2 #[.bool s2, .slice A2 l2 c2] #[.bool t2, .slice B2 m2 d2] 25 25
  rw [← hW] at hgl b0 b1 ⊢
  clear hW
  have HZ2 := hid (AZ.gr ⟨s2, _, n2, rfl, ha, hz⟩ hgl)
  have HN2 := hid (hb.gr hgl)
  have HD2 := hid (hc.gr hgl)
  have HB20 := hid b0
  have HB21 := hid b1
  have HGL2 := hid (hg.trans hgl)
  have hsz2 := b1.lt
  clear ha hb hc hz hg hgl b0 b1
  have HB1x := hid (HB10.out.gr HGL2.out)
  have HB1y := hid (HB11.out.gr HGL2.out)
  have HZ1x := hid (HZ1.out.gr HGL2.out)
  have HN1x := hid (HN1.out.gr HGL2.out)
  have HD1x := hid (HD1.out.gr HGL2.out)
  have HW := hid ((HG.out.trans HGL1.out).trans HGL2.out)
  have HWL := hid (HGL1.out.trans HGL2.out)
  have p100 : W2.cell? ⟨w1.heap.size, 0, none⟩ = some (.bool s1) := (HB1x.out).c 0 rfl
  have p101 : W2.cell? ⟨w1.heap.size, 1, none⟩ = some (.slice A1 l1 c1) := (HB1x.out).c 1 rfl
  have p110 : W2.cell? ⟨w1.heap.size + 1, 0, none⟩ = some (.bool t1) := (HB1y.out).c 0 rfl
  have p111 : W2.cell? ⟨w1.heap.size + 1, 1, none⟩ = some (.slice B1 m1 d1) := (HB1y.out).c 1 rfl
  have p200 : W2.cell? ⟨w2.heap.size, 0, none⟩ = some (.bool s2) := (HB20.out).c 0 rfl
  have p201 : W2.cell? ⟨w2.heap.size, 1, none⟩ = some (.slice A2 l2 c2) := (HB20.out).c 1 rfl
  have p210 : W2.cell? ⟨w2.heap.size + 1, 0, none⟩ = some (.bool t2) := (HB21.out).c 0 rfl
  have p211 : W2.cell? ⟨w2.heap.size + 1, 1, none⟩ = some (.slice B2 m2 d2) := (HB21.out).c 1 rfl
  clear c00 c01 c02 c10 c11 c12 x10 x11 x12 y1 y2
  have hbo : decide ((k1 : Int) * z2 ≠ 0) = bo := by
    have h1 := HK1.out
    rw [HBO.out, decide_eq_decide, HQ2.out, Rat.mkRat_ne_zero (by have := HK2.out; omega)]
    constructor
    · intro h h2; exact h (by rw [h2, Int.mul_zero])
    · intro h h2
      rcases Int.mul_eq_zero.1 h2 with h3 | h3
      · omega
      · exact h h3
  have HMK : Hid (∀ (V : World) (a b : Value), AZ V a (z1 * (k2 : Int)) (2 * L) → AZ V b ((k1 : Int) * z2) (2 * L) → Calls Try.prog 13 #[a, b] V (RetB V bo fun v w' => VQ w' V.heap.size v R (2 * L))) := by
    intro V a b ha hb
    have h := rmake_c V a b _ _ _ ha hb (by omega) (by omega)
    rw [hbo, ← mkRat_div', ← HQ1.out, ← HQ2.out, ← HR.out] at h
    exact h
  clear hbo
  go_region_held3 (fun V => V.cell? ⟨w1.heap.size, 0, none⟩ = some (.bool s1) ∧ V.cell? ⟨w1.heap.size, 1, none⟩ = some (.slice A1 l1 c1) ∧ V.cell? ⟨w1.heap.size + 1, 0, none⟩ = some (.bool t1) ∧ V.cell? ⟨w1.heap.size + 1, 1, none⟩ = some (.slice B1 m1 d1) ∧ V.cell? ⟨w2.heap.size, 0, none⟩ = some (.bool s2) ∧ V.cell? ⟨w2.heap.size, 1, none⟩ = some (.slice A2 l2 c2) ∧ V.cell? ⟨w2.heap.size + 1, 0, none⟩ = some (.bool t2) ∧ V.cell? ⟨w2.heap.size + 1, 1, none⟩ = some (.slice B2 m2 d2))
    (first
      | exact ⟨p100, p101, p110, p111, p200, p201, p210, p211⟩
      | with_reducible exact ⟨Gr.cell HX1.out p100, Gr.cell HX1.out p101, Gr.cell HX1.out p110, Gr.cell HX1.out p111, Gr.cell HX1.out p200, Gr.cell HX1.out p201, Gr.cell HX1.out p210, Gr.cell HX1.out p211⟩
      | with_reducible exact ⟨Gr.cell HX2.out p100, Gr.cell HX2.out p101, Gr.cell HX2.out p110, Gr.cell HX2.out p111, Gr.cell HX2.out p200, Gr.cell HX2.out p201, Gr.cell HX2.out p210, Gr.cell HX2.out p211⟩
      | with_reducible exact ⟨Gr.cell HX3.out p100, Gr.cell HX3.out p101, Gr.cell HX3.out p110, Gr.cell HX3.out p111, Gr.cell HX3.out p200, Gr.cell HX3.out p201, Gr.cell HX3.out p210, Gr.cell HX3.out p211⟩
      | with_reducible exact ⟨set3 (by dsimp only; omega) (Gr.cell HX3.out p100), set3 (by dsimp only; omega) (Gr.cell HX3.out p101), set3 (by dsimp only; omega) (Gr.cell HX3.out p110), set3 (by dsimp only; omega) (Gr.cell HX3.out p111), set3 (by dsimp only; omega) (Gr.cell HX3.out p200), set3 (by dsimp only; omega) (Gr.cell HX3.out p201), set3 (by dsimp only; omega) (Gr.cell HX3.out p210), set3 (by dsimp only; omega) (Gr.cell HX3.out p211)⟩)
    (first
      | (go_at_call 13; refine (HMK.out x2 g1 g2 (HV1x.out.az.le (by omega)) (HV2.out.az.le (by omega))).mono ?_; rintro e x3 ⟨vr, rfl, hm, hg⟩; obtain ⟨Az, nz, cz, Bz, kz, dz, rfl, hm⟩ := hm.form; obtain ⟨bb, hbb⟩ : ∃ b, b = decide (R.num < 0) := ⟨_, rfl⟩; rw [← hbb] at hm ⊢; have HVQ := hid (hm.base (b' := W2.heap.size) HX2.out.size); have HX3 := hid (HX2.out.trans hg); have rc00 := (HB0.out.gr (HWL.out.trans HX3.out)).c 0 rfl; have rf00 := (HB0.out.gr (HWL.out.trans HX3.out)).free 0; have rc01 := (HB0.out.gr (HWL.out.trans HX3.out)).c 1 rfl; have rf01 := (HB0.out.gr (HWL.out.trans HX3.out)).free 1; have rc02 := (HB0.out.gr (HWL.out.trans HX3.out)).c 2 rfl; have rf02 := (HB0.out.gr (HWL.out.trans HX3.out)).free 2; have rl0 := (HB0.out.gr (HWL.out.trans HX3.out)).lt; clear hm hg hbb)
      | (go_at_call 49; refine (zmul_c x1 _ _ (k1 : Int) z2 L L (HD1x.out.gr HX1.out) (HZ2.out.gr HX1.out) (by omega) (by omega)).mono ?_; rintro e x2 ⟨g2, rfl, hv, hg⟩; have HV2 := hid hv; have HX2 := hid (HX1.out.trans hg); have HV1x := hid (HV1.out.gr hg); clear hv hg)
      | (go_at_call 49; refine (zmul_c _ _ _ z1 (k2 : Int) L L (HZ1x.out.gr ((Gr.refl W2).drew)) (HD2.out.gr ((Gr.refl W2).drew)) (by omega) (by omega)).mono ?_; rintro e x1 ⟨g1, rfl, hv, hg⟩; have HV1 := hid hv; have HX1 := hid (((Gr.refl W2).drew).trans hg); clear hv hg))
  go_wp2
  refine ratio_end_b rfl rfl rfl (HB0.out.gr (HWL.out.trans HX3.out)) ?_
  intro V hV
  have a1 := HVQ.out.exb hV (by omega)
  have a3 := (HW.out.trans HX3.out).ex hV (by omega)
  have a4 := a1.base (b' := w.heap.size) (by omega)
  exact ⟨_, rfl, a4, a3⟩
end Go.Proofs.Ytkbgdiejjabdmaa
