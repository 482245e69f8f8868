/- The walks of ratio.Cmp and Sign. -/
import Derived.Test.YtkbgdiejjabdmaaRatC
namespace Go.Proofs.Ytkbgdiejjabdmaa
open Go.RowKit

set_option maxHeartbeats 8000000 in
theorem rcmp_c (w : World) (v1 v2 : Value) (p q : Rat) (L : Nat) (h1 : AQ w v1 p L) (h2 : AQ w v2 q L) (hL1 : 1 ≤ L) (hL : L ≤ 68719476736) :
    Calls Try.prog 18 #[v1, v2] w (Is w (.int .i64 (cmpQ p q))) := by
  have HA1 := hid h1
  have HA2 := hid h2
  obtain ⟨neg1, mm1, dd1, _, _, rfl, _, _, _⟩ := h1
  obtain ⟨neg2, mm2, dd2, _, _, rfl, _, _, _⟩ := h2
  obtain ⟨R, hR⟩ : ∃ R, R = cmpQ p q := ⟨_, rfl⟩
  rw [← hR]
  have HR := hid hR
  clear hR
  go_enter Try.func18, Try.ntmps18
  go_wp2_with fail
  obtain ⟨W, hW⟩ : ∃ W, W = (w.alloc (.cells #[.bool neg1, mm1, dd1] 27)).alloc (.cells #[.bool neg2, mm2, dd2] 27) := ⟨_, rfl⟩
  obtain ⟨hg, b0, b1⟩ := al2 w #[.bool neg1, mm1, dd1] #[.bool neg2, mm2, dd2] 27 27
  rw [← hW] at hg b0 b1 ⊢
  clear hW
  have c00 : W.cell? ⟨w.heap.size, 0, none⟩ = some (.bool neg1) := b0.c 0 rfl
  have c01 : W.cell? ⟨w.heap.size, 1, none⟩ = some (mm1) := b0.c 1 rfl
  have c02 : W.cell? ⟨w.heap.size, 2, none⟩ = some (dd1) := b0.c 2 rfl
  have c10 : W.cell? ⟨w.heap.size + 1, 0, none⟩ = some (.bool neg2) := b1.c 0 rfl
  have c11 : W.cell? ⟨w.heap.size + 1, 1, none⟩ = some (mm2) := b1.c 1 rfl
  have c12 : W.cell? ⟨w.heap.size + 1, 2, none⟩ = some (dd2) := b1.c 2 rfl
  have HG := hid hg
  have HBP := hid b1
  have HS : Hid (w.heap.size < W.heap.size) := by have h := b1.lt; unfold Hid; omega
  clear hg b0 b1
  have hsz0 := HS.out
  refine (parts_c W _ p L (HA1.out.gr HG.out) hL1 (by omega)).mono ?_
  rintro e w1 ⟨u, v, rfl, ⟨s1, A1, l1, c1, t1, B1, m1, d1, rfl, rfl, z1, k1, n1, hk, hq, hz, ha, hb, hc⟩, hg⟩
  have HK1 := hid hk
  have HQ1 := hid hq
  have HG1 := hid hg
  clear hk hq
  have hle1 := HG1.out.size
  have x10 := Gr.cell HG1.out c10
  have x11 := Gr.cell HG1.out c11
  have x12 := Gr.cell HG1.out c12
  have y1 : w.heap.size + 1 < w1.heap.size := by have h := HBP.out.lt; omega
  have y2 : w.heap.size + 1 < w1.heap.size + 1 := by omega
  go_wp2_with fail
  obtain ⟨W1, hW⟩ : ∃ W, W = (w1.alloc (.cells #[.bool s1, .slice A1 l1 c1] 25)).alloc (.cells #[.bool t1, .slice B1 m1 d1] 25) := ⟨_, rfl⟩
  obtain ⟨hgl, b0, b1⟩ := al2 w1 #[.bool s1, .slice A1 l1 c1] #[.bool t1, .slice B1 m1 d1] 25 25
  rw [← hW] at hgl b0 b1 ⊢
  clear hW
  have HZ1 := hid (AZ.gr ⟨s1, _, n1, rfl, ha, hz⟩ hgl)
  have HN1 := hid (hb.gr hgl)
  have HD1 := hid (hc.gr hgl)
  have HB10 := hid b0
  have HB11 := hid b1
  have HGL1 := hid (hg.trans hgl)
  have hsz1 := b1.lt
  clear ha hb hc hz hg hgl b0 b1
  refine (parts_c W1 _ q L (HA2.out.gr (HG.out.trans HGL1.out)) hL1 (by omega)).mono ?_
  rintro e w2 ⟨u, v, rfl, ⟨s2, A2, l2, c2, t2, B2, m2, d2, rfl, rfl, z2, k2, n2, hk, hq, hz, ha, hb, hc⟩, hg⟩
  have HK2 := hid hk
  have HQ2 := hid hq
  have HG2 := hid hg
  clear hk hq
  have hle2 := HG2.out.size
  go_wp2
  obtain ⟨W2, hW⟩ : ∃ W, W = (w2.alloc (.cells #[.bool s2, .slice A2 l2 c2] 25)).alloc (.cells #[.bool t2, .slice B2 m2 d2] 25) := ⟨_, rfl⟩
  obtain ⟨hgl, b0, b1⟩ := al2 w2 #[.bool s2, .slice A2 l2 c2] #[.bool t2, .slice B2 m2 d2] 25 25
  rw [← hW] at hgl b0 b1 ⊢
  clear hW
  have HZ2 := hid (AZ.gr ⟨s2, _, n2, rfl, ha, hz⟩ hgl)
  have HN2 := hid (hb.gr hgl)
  have HD2 := hid (hc.gr hgl)
  have HB20 := hid b0
  have HB21 := hid b1
  have HGL2 := hid (hg.trans hgl)
  have hsz2 := b1.lt
  clear ha hb hc hz hg hgl b0 b1
  have HB1x := hid (HB10.out.gr HGL2.out)
  have HB1y := hid (HB11.out.gr HGL2.out)
  have HZ1x := hid (HZ1.out.gr HGL2.out)
  have HN1x := hid (HN1.out.gr HGL2.out)
  have HD1x := hid (HD1.out.gr HGL2.out)
  have HW := hid ((HG.out.trans HGL1.out).trans HGL2.out)
  have HWL := hid (HGL1.out.trans HGL2.out)
  have p100 : W2.cell? ⟨w1.heap.size, 0, none⟩ = some (.bool s1) := (HB1x.out).c 0 rfl
  have p101 : W2.cell? ⟨w1.heap.size, 1, none⟩ = some (.slice A1 l1 c1) := (HB1x.out).c 1 rfl
  have p110 : W2.cell? ⟨w1.heap.size + 1, 0, none⟩ = some (.bool t1) := (HB1y.out).c 0 rfl
  have p111 : W2.cell? ⟨w1.heap.size + 1, 1, none⟩ = some (.slice B1 m1 d1) := (HB1y.out).c 1 rfl
  have p200 : W2.cell? ⟨w2.heap.size, 0, none⟩ = some (.bool s2) := (HB20.out).c 0 rfl
  have p201 : W2.cell? ⟨w2.heap.size, 1, none⟩ = some (.slice A2 l2 c2) := (HB20.out).c 1 rfl
  have p210 : W2.cell? ⟨w2.heap.size + 1, 0, none⟩ = some (.bool t2) := (HB21.out).c 0 rfl
  have p211 : W2.cell? ⟨w2.heap.size + 1, 1, none⟩ = some (.slice B2 m2 d2) := (HB21.out).c 1 rfl
  clear c00 c01 c02 c10 c11 c12 x10 x11 x12 y1 y2
  have HCM : Hid (∀ (V : World) (a b : Value), AZ V a (z1 * (k2 : Int)) (L + L) → AZ V b (z2 * (k1 : Int)) (L + L) → Calls Try.prog 48 #[a, b] V (Is V (.int .i64 R))) := by
    intro V a b ha hb
    have h := zcmp_c V a b _ _ _ _ ha hb (by omega) (by omega)
    rw [← cmpQ_mk _ _ _ _ HK1.out HK2.out, ← HQ1.out, ← HQ2.out, ← HR.out] at h
    exact h
  go_region_held3 (fun V => V.cell? ⟨w1.heap.size, 0, none⟩ = some (.bool s1) ∧ V.cell? ⟨w1.heap.size, 1, none⟩ = some (.slice A1 l1 c1) ∧ V.cell? ⟨w1.heap.size + 1, 0, none⟩ = some (.bool t1) ∧ V.cell? ⟨w1.heap.size + 1, 1, none⟩ = some (.slice B1 m1 d1) ∧ V.cell? ⟨w2.heap.size, 0, none⟩ = some (.bool s2) ∧ V.cell? ⟨w2.heap.size, 1, none⟩ = some (.slice A2 l2 c2) ∧ V.cell? ⟨w2.heap.size + 1, 0, none⟩ = some (.bool t2) ∧ V.cell? ⟨w2.heap.size + 1, 1, none⟩ = some (.slice B2 m2 d2))
    (first
      | exact ⟨p100, p101, p110, p111, p200, p201, p210, p211⟩
      | with_reducible exact ⟨Gr.cell HX1.out p100, Gr.cell HX1.out p101, Gr.cell HX1.out p110, Gr.cell HX1.out p111, Gr.cell HX1.out p200, Gr.cell HX1.out p201, Gr.cell HX1.out p210, Gr.cell HX1.out p211⟩
      | with_reducible exact ⟨Gr.cell HX2.out p100, Gr.cell HX2.out p101, Gr.cell HX2.out p110, Gr.cell HX2.out p111, Gr.cell HX2.out p200, Gr.cell HX2.out p201, Gr.cell HX2.out p210, Gr.cell HX2.out p211⟩
      | with_reducible exact ⟨Gr.cell HX3.out p100, Gr.cell HX3.out p101, Gr.cell HX3.out p110, Gr.cell HX3.out p111, Gr.cell HX3.out p200, Gr.cell HX3.out p201, Gr.cell HX3.out p210, Gr.cell HX3.out p211⟩)
    (first
      | (go_at_call 48; refine (HCM.out x2 g1 g2 HV1x.out.az HV2.out.az).mono ?_; rintro e x3 ⟨rfl, hg⟩; have HX3 := hid (HX2.out.trans hg); clear hg)
      | (go_at_call 49; refine (zmul_c x1 _ _ z2 (k1 : Int) L L (HZ2.out.gr HX1.out) (HD1x.out.gr HX1.out) (by omega) (by omega)).mono ?_; rintro e x2 ⟨g2, rfl, hv, hg⟩; have HV2 := hid hv; have HX2 := hid (HX1.out.trans hg); have HV1x := hid (HV1.out.gr hg); clear hv hg)
      | (go_at_call 49; refine (zmul_c _ _ _ z1 (k2 : Int) L L (HZ1x.out.gr ((Gr.refl W2).drew)) (HD2.out.gr ((Gr.refl W2).drew)) (by omega) (by omega)).mono ?_; rintro e x1 ⟨g1, rfl, hv, hg⟩; have HV1 := hid hv; have HX1 := hid (((Gr.refl W2).drew).trans hg); clear hv hg))
  go_wp2
  go_ret
  exact ⟨rfl, HW.out.trans HX3.out⟩
end Go.Proofs.Ytkbgdiejjabdmaa
