/- The walk of the reference's integer Sub. -/
import Derived.Test.YtkbgdiejjabdmaaDoorRgB
namespace Go.Proofs.YtkbgdiejjabdmaaDoor
open Go.RowKit

set_option maxHeartbeats 4000000 in
theorem xzsub_c (w : World) (v1 v2 : Value) (x y : Int) (L : Nat) (h1 : AZ w v1 x L) (h2 : AZ w v2 y L) (hL : L ≤ 137438953472) :
    Calls Tryd.prog 75 #[v1, v2] w (Ret w fun v w' => VZ w' w.heap.size v (x - y) (L + 1)) := by
  have HA1 := hid h1
  have HA2 := hid h2
  obtain ⟨neg1, m1, n1, rfl, hm1, hx⟩ := h1
  obtain ⟨neg2, m2, n2, rfl, hm2, hy⟩ := h2
  obtain ⟨z, hz⟩ : ∃ z, z = x - y := ⟨_, rfl⟩
  rw [← hz]
  have HNG : Hid (∀ V, Gr w V → Calls Tryd.prog 67 #[.agg #[.bool neg2, m2]] V (Ret V fun v w' => VZ w' V.heap.size v (-y) L)) := fun V hV => xzneg_c V _ y L (HA2.out.gr hV) (by omega)
  have HAD : Hid (∀ V v, Gr w V → AZ V v (-y) L → Calls Tryd.prog 73 #[.agg #[.bool neg1, m1], v] V (Ret V fun v w' => VZ w' V.heap.size v z (L + 1))) := fun V v hV hv => by
    have h := xzadd_c V _ v x (-y) L (HA1.out.gr hV) hv hL
    rw [show x + -y = z by omega] at h
    exact h
  clear hz hx hy HA1 HA2
  go_enter Tryd.func75, Tryd.ntmps75
  go_wp2
  obtain ⟨W, hW⟩ : ∃ W, W = ((w.alloc (.cells #[.bool neg1, m1] 51)).alloc (.cells #[.bool neg2, m2] 51)).alloc (.cells #[.bool false, .slice none 0 0] 51) := ⟨_, rfl⟩
  obtain ⟨hg, b0, b1, b2⟩ := al3 w #[.bool neg1, m1] #[.bool neg2, m2] #[.bool false, .slice none 0 0] 51 51 51
  rw [← hW] at hg b0 b1 b2 ⊢
  clear hW
  have H1 := hid (hm1.gr hg)
  have H2 := hid (hm2.gr hg)
  have c00 : W.cell? ⟨w.heap.size, 0, none⟩ = some (.bool neg1) := b0.c 0 rfl
  have c01 : W.cell? ⟨w.heap.size, 1, none⟩ = some (m1) := b0.c 1 rfl
  have c10 : W.cell? ⟨w.heap.size + 1, 0, none⟩ = some (.bool neg2) := b1.c 0 rfl
  have c11 : W.cell? ⟨w.heap.size + 1, 1, none⟩ = some (m2) := b1.c 1 rfl
  have HB0 := hid b2
  have HG := hid hg
  have HS : Hid (w.heap.size < W.heap.size) := by have h := b2.lt; unfold Hid; omega
  clear hm1 hm2 hg b0 b1 b2
  go_region_held3 (fun V => V.cell? ⟨w.heap.size, 0, none⟩ = some (.bool neg1) ∧ V.cell? ⟨w.heap.size, 1, none⟩ = some (m1) ∧ V.cell? ⟨w.heap.size + 1, 0, none⟩ = some (.bool neg2) ∧ V.cell? ⟨w.heap.size + 1, 1, none⟩ = some (m2))
    (first
      | exact ⟨c00, c01, c10, c11⟩
      | with_reducible exact ⟨Gr.cell HG1.out c00, Gr.cell HG1.out c01, Gr.cell HG1.out c10, Gr.cell HG1.out c11⟩
      | with_reducible exact ⟨Gr.cell HG2.out c00, Gr.cell HG2.out c01, Gr.cell HG2.out c10, Gr.cell HG2.out c11⟩
      | with_reducible exact ⟨set2 (by dsimp only; omega) (Gr.cell HG2.out c00), set2 (by dsimp only; omega) (Gr.cell HG2.out c01), set2 (by dsimp only; omega) (Gr.cell HG2.out c10), set2 (by dsimp only; omega) (Gr.cell HG2.out c11)⟩)
    (first
      | (go_at_call 73; refine (HAD.out w1 v (HG.out.trans HG1.out) HV1.out.az).mono ?_; rintro e w2 ⟨v2, rfl, hm, hg2⟩; obtain ⟨A, n, c, rfl, hm⟩ := hm.form; have HVZ := hid (hm.base (b' := W.heap.size) HG1.out.size); have HG2 := hid (HG1.out.trans hg2); have rc00 := (HB0.out.gr HG2.out).c 0 rfl; have rf00 := (HB0.out.gr HG2.out).free 0; have rc01 := (HB0.out.gr HG2.out).c 1 rfl; have rf01 := (HB0.out.gr HG2.out).free 1; have rl0 := (HB0.out.gr HG2.out).lt; clear hm hg2)
      | (go_at_call 67; refine (HNG.out _ (HG.out.trans ((Gr.refl W).drew))).mono ?_; rintro e w1 ⟨v, rfl, hv, hg1⟩; have HV1 := hid hv; have HG1 := hid (((Gr.refl W).drew).trans hg1); clear hv hg1))
  go_wp2
  refine int_end rfl rfl rfl (HB0.out.gr HG2.out) ?_
  intro V hV
  have := HS.out
  have a1 := HVZ.out.exb hV HB0.out.lt
  have a2 := HB0.out.lt
  have a3 := (HG.out.trans HG2.out).ex hV (by omega)
  have a4 := a1.base (b' := w.heap.size) (by omega)
  exact ⟨_, rfl, a4, a3⟩
end Go.Proofs.YtkbgdiejjabdmaaDoor
