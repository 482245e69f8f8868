/- The walk of the reference's ratio Neg. -/
import Derived.Test.YtkbgdiejjabdmaaRgD
import Derived.Deep.RegionHeld3
namespace Go.Proofs.Ytkbgdiejjabdmaa
open Go.RowKit

set_option maxHeartbeats 4000000 in
theorem xrneg_c (w : World) (v1 : Value) (p : Rat) (L : Nat) (h1 : AQ w v1 p L) (hL1 : 1 ≤ L) (hL : L ≤ 137438953472) :
    Calls Try.prog 59 #[v1] w (Ret w fun v w' => VQ w' w.heap.size v (-p) L) := by
  obtain ⟨neg1, A1, l1, c1, A2, l2, c2, z1, k1, rfl, hk1, hq1, HTP1, HLW1⟩ := xtl w v1 p L h1 hL1 (by omega)
  obtain ⟨R, hR⟩ : ∃ R, R = -p := ⟨_, rfl⟩
  rw [← hR]
  have HRD : Hid (∀ (V : World) (a b : Value), AZ V a (-z1) (L) → AN V b (k1) (L) → Calls Try.prog 46 #[a, b] V (Ret V fun v w' => VQ w' V.heap.size v R (L))) := fun V a b ha hb => by
    have h := xreduce_c V a b (-z1) (k1) (L) ha hb (by omega) (by omega) (by omega)
    rwa [show mkRat (-z1) (k1) = R by rw [hR, hq1, Rat.neg_mkRat]] at h
  clear hR hk1 hq1 h1
  go_enter Try.func59, Try.ntmps59
  go_wp2
  obtain ⟨W, hW⟩ : ∃ W, W = (w.alloc (.cells #[.bool neg1, .slice A1 l1 c1, .slice A2 l2 c2] 27)).alloc (.cells #[.bool false, .slice none 0 0, .slice none 0 0] 27) := ⟨_, rfl⟩
  obtain ⟨hg, b0, b1⟩ := al2 w #[.bool neg1, .slice A1 l1 c1, .slice A2 l2 c2] #[.bool false, .slice none 0 0, .slice none 0 0] 27 27
  rw [← hW] at hg b0 b1 ⊢
  clear hW
  have c00 : W.cell? ⟨w.heap.size, 0, none⟩ = some (.bool neg1) := b0.c 0 rfl
  have c01 : W.cell? ⟨w.heap.size, 1, none⟩ = some (.slice A1 l1 c1) := b0.c 1 rfl
  have c02 : W.cell? ⟨w.heap.size, 2, none⟩ = some (.slice A2 l2 c2) := b0.c 2 rfl
  have HB0 := hid b1
  have HG := hid hg
  have HS : Hid (w.heap.size < W.heap.size) := by have h := b1.lt; unfold Hid; omega
  clear hg b0 b1
  go_region_held3 (fun V => V.cell? ⟨w.heap.size, 0, none⟩ = some (.bool neg1) ∧ V.cell? ⟨w.heap.size, 1, none⟩ = some (.slice A1 l1 c1) ∧ V.cell? ⟨w.heap.size, 2, none⟩ = some (.slice A2 l2 c2))
    (first
      | exact ⟨c00, c01, c02⟩
      | with_reducible exact ⟨Gr.cell HX1.out c00, Gr.cell HX1.out c01, Gr.cell HX1.out c02⟩
      | with_reducible exact ⟨Gr.cell HX2.out c00, Gr.cell HX2.out c01, Gr.cell HX2.out c02⟩
      | with_reducible exact ⟨Gr.cell HX3.out c00, Gr.cell HX3.out c01, Gr.cell HX3.out c02⟩
      | with_reducible exact ⟨Gr.cell HX4.out c00, Gr.cell HX4.out c01, Gr.cell HX4.out c02⟩
      | with_reducible exact ⟨set3 (by dsimp only; omega) (Gr.cell HX4.out c00), set3 (by dsimp only; omega) (Gr.cell HX4.out c01), set3 (by dsimp only; omega) (Gr.cell HX4.out c02)⟩)
    (first
      | (go_at_call 46; refine (HRD.out x3 g2 g3 HV23.out.az HV3.out.an).mono ?_; rintro e x4 ⟨vr, rfl, hm, hg⟩; obtain ⟨Az, nz, cz, Bz, kz, dz, rfl, hm⟩ := hm.form; obtain ⟨bb, hbb⟩ : ∃ b, b = decide (R.num < 0) := ⟨_, rfl⟩; rw [← hbb] at hm ⊢; have HVQ := hid (hm.base (b' := W.heap.size) HX3.out.size); have HX4 := hid (HX3.out.trans hg); have rc00 := (HB0.out.gr HX4.out).c 0 rfl; have rf00 := (HB0.out.gr HX4.out).free 0; have rc01 := (HB0.out.gr HX4.out).c 1 rfl; have rf01 := (HB0.out.gr HX4.out).free 1; have rc02 := (HB0.out.gr HX4.out).c 2 rfl; have rf02 := (HB0.out.gr HX4.out).free 2; have rl0 := (HB0.out.gr HX4.out).lt; clear hm hg hbb)
      | (go_at_call 53; refine (HLW1.out x2 (HG.out.trans HX2.out)).mono ?_; rintro e x3 ⟨g3, rfl, hv, hg⟩; have HV3 := hid hv; have HX3 := hid (HX2.out.trans hg); have HV23 := hid (HV2.out.gr hg); clear hv hg)
      | (go_at_call 45; refine (xzneg_c x1 g1 z1 L HV1.out.az (by omega)).mono ?_; rintro e x2 ⟨g2, rfl, hv, hg⟩; have HV2 := hid hv; have HX2 := hid (HX1.out.trans hg); clear hv hg)
      | (go_at_call 51; refine (HTP1.out _ (HG.out.trans ((Gr.refl W).drew))).mono ?_; rintro e x1 ⟨g1, rfl, hv, hg⟩; have HV1 := hid hv; have HX1 := hid (((Gr.refl W).drew).trans hg); clear hv hg))
  go_wp2
  refine ratio_end rfl rfl rfl (HB0.out.gr HX4.out) ?_
  intro V hV
  have := HS.out
  have l0 := HB0.out.lt
  have a1 := HVQ.out.exb hV (by omega)
  have a3 := (HG.out.trans HX4.out).ex hV (by omega)
  have a4 := a1.base (b' := w.heap.size) (by omega)
  exact ⟨_, rfl, a4, a3⟩
end Go.Proofs.Ytkbgdiejjabdmaa
