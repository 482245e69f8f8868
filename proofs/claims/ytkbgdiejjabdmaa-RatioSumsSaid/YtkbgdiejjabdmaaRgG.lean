/- The walks of the reference's ratio Sub and Div. -/
import Derived.Test.YtkbgdiejjabdmaaRgF
import Derived.Test.YtkbgdiejjabdmaaRgE
import Derived.Test.YtkbgdiejjabdmaaBoxR
namespace Go.Proofs.Ytkbgdiejjabdmaa
open Go.RowKit

theorem q_inv (z : Int) (k : Nat) (hz : z ≠ 0) : mkRat (sgnd (decide (z < 0)) k) z.natAbs = (mkRat z k)⁻¹ := by
  rw [← Rat.divInt_ofNat z k, Rat.inv_divInt]
  unfold sgnd
  by_cases h : z < 0
  · rw [if_pos (decide_eq_true h), div_neg h]
  · rw [if_neg (by simpa using h), div_pos (by omega)]

set_option maxHeartbeats 8000000 in
theorem xrsub_c (w : World) (v1 v2 : Value) (p q : Rat) (L : Nat) (h1 : AQ w v1 p L) (h2 : AQ w v2 q L) (hL1 : 1 ≤ L) (hL : L ≤ 17179869184) :
    Calls Try.prog 23 #[v1, v2] w (Ret w fun v w' => VQ w' w.heap.size v (p - q) (2 * L + 1)) := by
  have HA1 := hid h1
  have HA2 := hid h2
  obtain ⟨neg1, A1, l1, c1, A2, l2, c2, z1, k1, rfl, hk1, hq1, HTP1, HLW1⟩ := xtl w v1 p L h1 hL1 (by omega)
  obtain ⟨neg2, A3, l3, c3, A4, l4, c4, z2, k2, rfl, hk2, hq2, HTP2, HLW2⟩ := xtl w v2 q L h2 hL1 (by omega)
  obtain ⟨R, hR⟩ : ∃ R, R = p - q := ⟨_, rfl⟩
  rw [← hR]
  have HAD : Hid (∀ (V : World) (a b : Value), AQ V a p L → AQ V b (-q) L → Calls Try.prog 21 #[a, b] V (Ret V fun v w' => VQ w' V.heap.size v R (2 * L + 1))) := fun V a b ha hb => by
    have h := xradd_c V a b p (-q) L ha hb hL1 (by omega)
    rwa [← Rat.sub_eq_add_neg, ← hR] at h
  clear hR hk1 hk2 hq1 hq2 h1 h2 HTP1 HTP2 HLW1 HLW2
  go_enter Try.func23, Try.ntmps23
  go_wp2
  obtain ⟨W, hW⟩ : ∃ W, W = ((w.alloc (.cells #[.bool neg1, .slice A1 l1 c1, .slice A2 l2 c2] 27)).alloc (.cells #[.bool neg2, .slice A3 l3 c3, .slice A4 l4 c4] 27)).alloc (.cells #[.bool false, .slice none 0 0, .slice none 0 0] 27) := ⟨_, rfl⟩
  obtain ⟨hg, b0, b1, b2⟩ := al3 w #[.bool neg1, .slice A1 l1 c1, .slice A2 l2 c2] #[.bool neg2, .slice A3 l3 c3, .slice A4 l4 c4] #[.bool false, .slice none 0 0, .slice none 0 0] 27 27 27
  rw [← hW] at hg b0 b1 b2 ⊢
  clear hW
  have c00 : W.cell? ⟨w.heap.size, 0, none⟩ = some (.bool neg1) := b0.c 0 rfl
  have c01 : W.cell? ⟨w.heap.size, 1, none⟩ = some (.slice A1 l1 c1) := b0.c 1 rfl
  have c02 : W.cell? ⟨w.heap.size, 2, none⟩ = some (.slice A2 l2 c2) := b0.c 2 rfl
  have c10 : W.cell? ⟨w.heap.size + 1, 0, none⟩ = some (.bool neg2) := b1.c 0 rfl
  have c11 : W.cell? ⟨w.heap.size + 1, 1, none⟩ = some (.slice A3 l3 c3) := b1.c 1 rfl
  have c12 : W.cell? ⟨w.heap.size + 1, 2, none⟩ = some (.slice A4 l4 c4) := b1.c 2 rfl
  have HB0 := hid b2
  have HG := hid hg
  have HS : Hid (w.heap.size < W.heap.size) := by have h := b2.lt; unfold Hid; omega
  clear hg b0 b1 b2
  go_region_held3 (fun V => V.cell? ⟨w.heap.size, 0, none⟩ = some (.bool neg1) ∧ V.cell? ⟨w.heap.size, 1, none⟩ = some (.slice A1 l1 c1) ∧ V.cell? ⟨w.heap.size, 2, none⟩ = some (.slice A2 l2 c2) ∧ V.cell? ⟨w.heap.size + 1, 0, none⟩ = some (.bool neg2) ∧ V.cell? ⟨w.heap.size + 1, 1, none⟩ = some (.slice A3 l3 c3) ∧ V.cell? ⟨w.heap.size + 1, 2, none⟩ = some (.slice A4 l4 c4))
    (first
      | exact ⟨c00, c01, c02, c10, c11, c12⟩
      | with_reducible exact ⟨Gr.cell HX1.out c00, Gr.cell HX1.out c01, Gr.cell HX1.out c02, Gr.cell HX1.out c10, Gr.cell HX1.out c11, Gr.cell HX1.out c12⟩
      | with_reducible exact ⟨Gr.cell HX2.out c00, Gr.cell HX2.out c01, Gr.cell HX2.out c02, Gr.cell HX2.out c10, Gr.cell HX2.out c11, Gr.cell HX2.out c12⟩
      | with_reducible exact ⟨set3 (by dsimp only; omega) (Gr.cell HX2.out c00), set3 (by dsimp only; omega) (Gr.cell HX2.out c01), set3 (by dsimp only; omega) (Gr.cell HX2.out c02), set3 (by dsimp only; omega) (Gr.cell HX2.out c10), set3 (by dsimp only; omega) (Gr.cell HX2.out c11), set3 (by dsimp only; omega) (Gr.cell HX2.out c12)⟩)
    (first
      | (go_at_call 21; refine (HAD.out x1 _ g1 (HA1.out.gr (HG.out.trans HX1.out)) HV1.out.aq).mono ?_; rintro e x2 ⟨vr, rfl, hm, hg⟩; obtain ⟨Az, nz, cz, Bz, kz, dz, rfl, hm⟩ := hm.form; obtain ⟨bb, hbb⟩ : ∃ b, b = decide (R.num < 0) := ⟨_, rfl⟩; rw [← hbb] at hm ⊢; have HVQ := hid (hm.base (b' := W.heap.size) HX1.out.size); have HX2 := hid (HX1.out.trans hg); have rc00 := (HB0.out.gr HX2.out).c 0 rfl; have rf00 := (HB0.out.gr HX2.out).free 0; have rc01 := (HB0.out.gr HX2.out).c 1 rfl; have rf01 := (HB0.out.gr HX2.out).free 1; have rc02 := (HB0.out.gr HX2.out).c 2 rfl; have rf02 := (HB0.out.gr HX2.out).free 2; have rl0 := (HB0.out.gr HX2.out).lt; clear hm hg hbb)
      | (go_at_call 59; refine (xrneg_c _ _ q L (HA2.out.gr (HG.out.trans ((Gr.refl W).drew))) hL1 (by omega)).mono ?_; rintro e x1 ⟨g1, rfl, hv, hg⟩; have HV1 := hid hv; have HX1 := hid (((Gr.refl W).drew).trans hg); clear hv hg))
  go_wp2
  refine ratio_end rfl rfl rfl (HB0.out.gr HX2.out) ?_
  intro V hV
  have := HS.out
  have l0 := HB0.out.lt
  have a1 := HVQ.out.exb hV (by omega)
  have a3 := (HG.out.trans HX2.out).ex hV (by omega)
  have a4 := a1.base (b' := w.heap.size) (by omega)
  exact ⟨_, rfl, a4, a3⟩

/-- A ratio, in any form, in a variable. -/
def AnyAt (W : World) (q : Rat) (L : Nat) (a : Value) (V : World) : Prop := ∃ g s A l c B m e, a = .pointer (some ⟨g, 0, none⟩) ∧ Blk V g #[.bool s, .slice A l c, .slice B m e] 27 ∧ AQ V (.agg #[.bool s, .slice A l c, .slice B m e]) q L ∧ Gr W V
theorem AN.box {w w' : World} {g : Nat} {s : Bool} {A B : Option Addr} {l c m e : Nat} {t : TypeId} {v : Value} {n L : Nat} (h : AN w v n L) (hb : Blk w g #[.bool s, .slice A l c, .slice B m e] t) (hx : Ex g w w') : AN w' v n L := by
  obtain ⟨A', c', xs, h1, h2, h3⟩ := h
  exact ⟨A', c', xs, h1, h2.box hb hx, h3⟩
theorem AQ.box {w w' : World} {g : Nat} {s : Bool} {A B : Option Addr} {l c m e : Nat} {t : TypeId} {v : Value} {q : Rat} {L : Nat} (h : AQ w v q L) (hb : Blk w g #[.bool s, .slice A l c, .slice B m e] t) (hx : Ex g w w') : AQ w' v q L := by
  obtain ⟨neg, m', d', n, k, h1, h2, h3, h4⟩ := h
  exact ⟨neg, m', d', n, k, h1, h2.box hb hx, h3.box hb hx, h4⟩
theorem inv_aq {w : World} {b b' : Nat} {sj sx : Bool} {A B : Option Addr} {l c m e k L : Nat} {z : Int} {Q : Rat} (h1 : VN w b (.slice A l c) (sgnd sx k).natAbs L) (h2 : VN w b' (.slice B m e) z.natAbs L) (hs : sj = decide (sgnd sx k < 0)) (hx : sx = decide (z < 0)) (hi : mkRat (sgnd (decide (z < 0)) k) z.natAbs = Q) : AQ w (.agg #[.bool sj, .slice A l c, .slice B m e]) Q L := by
  refine ⟨sj, _, _, _, _, rfl, h1.an, h2.an, ?_⟩
  subst hs
  show _ = mkRat (sgnd (decide (sgnd sx k < 0)) (sgnd sx k).natAbs) _
  rw [sgnd_self, ← hi, hx]
theorem any_at1 {W w : World} {q : Rat} {L : Nat} {s : Bool} {A B : Option Addr} {l c m e : Nat} (hG : Gr W w) (hv : AQ w (.agg #[.bool s, .slice A l c, .slice B m e]) q L) :
    AnyAt W q L (.pointer (some ⟨w.heap.size, 0, none⟩)) (w.alloc (.cells #[.bool s, .slice A l c, .slice B m e] 27)) :=
  ⟨_, s, A, l, c, B, m, e, rfl, Blk.new w _ _, hv.gr (Gr.alloc _ _), hG.trans (Gr.alloc _ _)⟩
theorem any_at2 {W w : World} {q : Rat} {L g : Nat} {s : Bool} {A B : Option Addr} {l c m e : Nat} (hG : Gr W w) (hv : AQ w (.agg #[.bool s, .slice A l c, .slice B m e]) q L) (hB : Blk w g #[.bool false, .slice none 0 0, .slice none 0 0] 27) (hg : W.heap.size ≤ g) :
    AnyAt W q L (.pointer (some ⟨g, 0, none⟩)) (((w.setCell ⟨g, 0, none⟩ (.bool s)).setCell ⟨g, 1, none⟩ (.slice A l c)).setCell ⟨g, 2, none⟩ (.slice B m e)) :=
  ⟨_, s, A, l, c, B, m, e, rfl, Blk.set3 hB, hv.box hB (ex3 w g _ _ _), hG.ex (ex3 w g _ _ _) hg⟩

set_option maxHeartbeats 8000000 in
theorem xrdiv_c (w : World) (v1 v2 : Value) (p q : Rat) (L : Nat) (h1 : AQ w v1 p L) (h2 : AQ w v2 q L) (hL1 : 1 ≤ L) (hL : L ≤ 17179869184) :
    Calls Try.prog 27 #[v1, v2] w (RetB w (decide (q ≠ 0)) fun v w' => VQ w' w.heap.size v (p / q) (2 * L + 1)) := by
  have HA1 := hid h1
  have HA2 := hid h2
  obtain ⟨neg1, A1, l1, c1, A2, l2, c2, z1, k1, rfl, hk1, hq1, HTP1, HLW1⟩ := xtl w v1 p L h1 hL1 (by omega)
  obtain ⟨neg2, A3, l3, c3, A4, l4, c4, z2, k2, rfl, hk2, hq2, HTP2, HLW2⟩ := xtl w v2 q L h2 hL1 (by omega)
  obtain ⟨R, hR⟩ : ∃ R, R = p / q := ⟨_, rfl⟩
  rw [← hR]
  by_cases hz : z2 = 0
  · have hq0 : q = 0 := by rw [hq2, hz, Rat.zero_mkRat]
    have hd : decide (q ≠ 0) = false := by simp [hq0]
    have hr0 : R = 0 := by rw [hR, hq0, Rat.div_def, Rat.inv_zero, Rat.mul_zero]
    have HR0 := hid hr0
    rw [hd]
    have HSG : Hid (∀ (V : World) (a : Value), AZ V a z2 L → Calls Try.prog 60 #[a] V (Is V (.int .i64 0))) := fun V a h => by
      have h := xzsign_c V a z2 L h (by omega)
      rwa [hz] at h
    clear hR hk1 hk2 hq1 hq2 h1 h2 hz hq0 hd hr0
    go_enter Try.func27, Try.ntmps27
    go_wp2_with fail
    obtain ⟨W, hW⟩ : ∃ W, W = ((w.alloc (.cells #[.bool neg1, .slice A1 l1 c1, .slice A2 l2 c2] 27)).alloc (.cells #[.bool neg2, .slice A3 l3 c3, .slice A4 l4 c4] 27)).alloc (.cells #[.bool false, .slice none 0 0, .slice none 0 0] 27) := ⟨_, rfl⟩
    obtain ⟨hg, b0, b1, b2⟩ := al3 w #[.bool neg1, .slice A1 l1 c1, .slice A2 l2 c2] #[.bool neg2, .slice A3 l3 c3, .slice A4 l4 c4] #[.bool false, .slice none 0 0, .slice none 0 0] 27 27 27
    rw [← hW] at hg b0 b1 b2 ⊢
    clear hW
    have c00 : W.cell? ⟨w.heap.size, 0, none⟩ = some (.bool neg1) := b0.c 0 rfl
    have c01 : W.cell? ⟨w.heap.size, 1, none⟩ = some (.slice A1 l1 c1) := b0.c 1 rfl
    have c02 : W.cell? ⟨w.heap.size, 2, none⟩ = some (.slice A2 l2 c2) := b0.c 2 rfl
    have c10 : W.cell? ⟨w.heap.size + 1, 0, none⟩ = some (.bool neg2) := b1.c 0 rfl
    have c11 : W.cell? ⟨w.heap.size + 1, 1, none⟩ = some (.slice A3 l3 c3) := b1.c 1 rfl
    have c12 : W.cell? ⟨w.heap.size + 1, 2, none⟩ = some (.slice A4 l4 c4) := b1.c 2 rfl
    have HB0 := hid b2
    have HG := hid hg
    have HS : Hid (w.heap.size < W.heap.size) := by have h := b2.lt; unfold Hid; omega
    clear hg b0 b1 b2
    refine (HTP2.out W HG.out).mono ?_
    rintro e w1 ⟨v, rfl, hv, hg1⟩
    obtain ⟨Ax, nx, cx, rfl, hv⟩ := hv.form
    obtain ⟨sx, hsx⟩ : ∃ s, s = decide (z2 < 0) := ⟨_, rfl⟩
    rw [← hsx] at hv ⊢
    have HSX := hid hsx
    clear hsx
    obtain ⟨W1, hW1⟩ : ∃ V, V = w1.alloc (.cells #[.bool sx, .slice Ax nx cx] 25) := ⟨_, rfl⟩
    go_upto_region 2 with (fail)
    obtain ⟨hgl, bl⟩ := al1 w1 #[.bool sx, .slice Ax nx cx] 25
    rw [← hW1] at hgl bl ⊢
    clear hW1
    have HVX := hid (hv.gr hgl)
    have HX1 := hid (hg1.trans hgl)
    have e0 : W1.cell? ⟨w1.heap.size, 0, none⟩ = some (.bool sx) := bl.c 0 rfl
    have e1 : W1.cell? ⟨w1.heap.size, 1, none⟩ = some (.slice Ax nx cx) := bl.c 1 rfl
    have d00 : W1.cell? ⟨w.heap.size, 0, none⟩ = some (.bool neg1) := Gr.cell HX1.out c00
    have d01 : W1.cell? ⟨w.heap.size, 1, none⟩ = some (.slice A1 l1 c1) := Gr.cell HX1.out c01
    have d02 : W1.cell? ⟨w.heap.size, 2, none⟩ = some (.slice A2 l2 c2) := Gr.cell HX1.out c02
    have d10 : W1.cell? ⟨w.heap.size + 1, 0, none⟩ = some (.bool neg2) := Gr.cell HX1.out c10
    have d11 : W1.cell? ⟨w.heap.size + 1, 1, none⟩ = some (.slice A3 l3 c3) := Gr.cell HX1.out c11
    have d12 : W1.cell? ⟨w.heap.size + 1, 2, none⟩ = some (.slice A4 l4 c4) := Gr.cell HX1.out c12
    clear hv hg1 hgl bl c00 c01 c02 c10 c11 c12
    go_wp2_with fail
    refine (HSG.out W1 _ HVX.out.az).mono ?_
    rintro e w2 ⟨rfl, hg2⟩
    have HVX := hid (HVX.out.gr hg2)
    have HX2 := hid (HX1.out.trans hg2)
    have i0 := Gr.cell hg2 e0
    have i1 := Gr.cell hg2 e1
    have j00 := Gr.cell hg2 d00
    have j01 := Gr.cell hg2 d01
    have j02 := Gr.cell hg2 d02
    have j10 := Gr.cell hg2 d10
    have j11 := Gr.cell hg2 d11
    have j12 := Gr.cell hg2 d12
    clear hg2 e0 e1 d00 d01 d02 d10 d11 d12
    go_wp2_with fail
    refine (xrzero_c w2).mono ?_
    rintro e w4 ⟨v4, rfl, hm, hg4⟩
    have hm := hm.base (b' := W.heap.size) HX2.out.size
    have HX4 := hid (HX2.out.trans hg4)
    clear hg4
    obtain ⟨Az, nz, cz, Bz, kz, dz, rfl, hm⟩ := hm.form
    obtain ⟨bb, hbb⟩ : ∃ b, b = decide (((0 : Rat)).num < 0) := ⟨_, rfl⟩
    rw [← hbb] at hm ⊢
    have HVQ := hid hm
    have rc00 := (HB0.out.gr HX4.out).c 0 rfl
    have rf00 := (HB0.out.gr HX4.out).free 0
    have rc01 := (HB0.out.gr HX4.out).c 1 rfl
    have rf01 := (HB0.out.gr HX4.out).free 1
    have rc02 := (HB0.out.gr HX4.out).c 2 rfl
    have rf02 := (HB0.out.gr HX4.out).free 2
    have rl0 := (HB0.out.gr HX4.out).lt
    clear hm hbb
    go_wp2
    refine ratio_end_b rfl rfl rfl (HB0.out.gr HX4.out) ?_
    intro V hV
    have := HS.out
    have l0 := HB0.out.lt
    have a1 := HVQ.out.exb hV l0
    have a3 := (HG.out.trans HX4.out).ex hV (by omega)
    have a4 := a1.base (b' := w.heap.size) (by omega)
    refine ⟨_, rfl, ?_, a3⟩
    rw [HR0.out]
    exact a4.le (by omega)
  · have hq0 : q ≠ 0 := by rw [hq2, Rat.mkRat_ne_zero (by omega)]; exact hz
    have hd : decide (q ≠ 0) = true := decide_eq_true hq0
    rw [hd]
    obtain ⟨sg, hsg⟩ : ∃ s, s = z2.sign := ⟨_, rfl⟩
    have HSG : Hid (∀ (V : World) (a : Value), AZ V a z2 L → Calls Try.prog 60 #[a] V (Is V (.int .i64 sg))) := fun V a h => by
      have h := xzsign_c V a z2 L h (by omega)
      rwa [← hsg] at h
    have hsb : (sg == 0) = false := by rw [beq_eq_false_iff_ne, hsg, Ne, Int.sign_eq_zero_iff_zero]; exact hz
    have HIV := hid (q_inv z2 k2 hz)
    have HML : Hid (∀ (V : World) (a b : Value), AQ V a p L → AQ V b (mkRat z2 k2)⁻¹ L → Calls Try.prog 25 #[a, b] V (Ret V fun v w' => VQ w' V.heap.size v R (2 * L + 1))) := fun V a b ha hb => by
      have h := xrmul_c V a b p _ L ha hb hL1 (by omega)
      rwa [← hq2, ← Rat.div_def, ← hR] at h
    have HK2 := hid hk2
    clear hR hk1 hk2 hq1 hq2 h1 h2 hz hq0 hd hsg
    go_enter Try.func27, Try.ntmps27
    go_wp2_with fail
    obtain ⟨W, hW⟩ : ∃ W, W = ((w.alloc (.cells #[.bool neg1, .slice A1 l1 c1, .slice A2 l2 c2] 27)).alloc (.cells #[.bool neg2, .slice A3 l3 c3, .slice A4 l4 c4] 27)).alloc (.cells #[.bool false, .slice none 0 0, .slice none 0 0] 27) := ⟨_, rfl⟩
    obtain ⟨hg, b0, b1, b2⟩ := al3 w #[.bool neg1, .slice A1 l1 c1, .slice A2 l2 c2] #[.bool neg2, .slice A3 l3 c3, .slice A4 l4 c4] #[.bool false, .slice none 0 0, .slice none 0 0] 27 27 27
    rw [← hW] at hg b0 b1 b2 ⊢
    clear hW
    have c00 : W.cell? ⟨w.heap.size, 0, none⟩ = some (.bool neg1) := b0.c 0 rfl
    have c01 : W.cell? ⟨w.heap.size, 1, none⟩ = some (.slice A1 l1 c1) := b0.c 1 rfl
    have c02 : W.cell? ⟨w.heap.size, 2, none⟩ = some (.slice A2 l2 c2) := b0.c 2 rfl
    have c10 : W.cell? ⟨w.heap.size + 1, 0, none⟩ = some (.bool neg2) := b1.c 0 rfl
    have c11 : W.cell? ⟨w.heap.size + 1, 1, none⟩ = some (.slice A3 l3 c3) := b1.c 1 rfl
    have c12 : W.cell? ⟨w.heap.size + 1, 2, none⟩ = some (.slice A4 l4 c4) := b1.c 2 rfl
    have HB0 := hid b2
    have HG := hid hg
    have HS : Hid (w.heap.size < W.heap.size) := by have h := b2.lt; unfold Hid; omega
    clear hg b0 b1 b2
    refine (HTP2.out W HG.out).mono ?_
    rintro e w1 ⟨v, rfl, hv, hg1⟩
    obtain ⟨Ax, nx, cx, rfl, hv⟩ := hv.form
    obtain ⟨sx, hsx⟩ : ∃ s, s = decide (z2 < 0) := ⟨_, rfl⟩
    rw [← hsx] at hv ⊢
    have HSX := hid hsx
    clear hsx
    obtain ⟨W1, hW1⟩ : ∃ V, V = w1.alloc (.cells #[.bool sx, .slice Ax nx cx] 25) := ⟨_, rfl⟩
    go_upto_region 2 with (fail)
    obtain ⟨hgl, bl⟩ := al1 w1 #[.bool sx, .slice Ax nx cx] 25
    rw [← hW1] at hgl bl ⊢
    clear hW1
    have HVX := hid (hv.gr hgl)
    have HX1 := hid (hg1.trans hgl)
    have e0 : W1.cell? ⟨w1.heap.size, 0, none⟩ = some (.bool sx) := bl.c 0 rfl
    have e1 : W1.cell? ⟨w1.heap.size, 1, none⟩ = some (.slice Ax nx cx) := bl.c 1 rfl
    have d00 : W1.cell? ⟨w.heap.size, 0, none⟩ = some (.bool neg1) := Gr.cell HX1.out c00
    have d01 : W1.cell? ⟨w.heap.size, 1, none⟩ = some (.slice A1 l1 c1) := Gr.cell HX1.out c01
    have d02 : W1.cell? ⟨w.heap.size, 2, none⟩ = some (.slice A2 l2 c2) := Gr.cell HX1.out c02
    have d10 : W1.cell? ⟨w.heap.size + 1, 0, none⟩ = some (.bool neg2) := Gr.cell HX1.out c10
    have d11 : W1.cell? ⟨w.heap.size + 1, 1, none⟩ = some (.slice A3 l3 c3) := Gr.cell HX1.out c11
    have d12 : W1.cell? ⟨w.heap.size + 1, 2, none⟩ = some (.slice A4 l4 c4) := Gr.cell HX1.out c12
    clear hv hg1 hgl bl c00 c01 c02 c10 c11 c12
    go_wp2_with fail
    refine (HSG.out W1 _ HVX.out.az).mono ?_
    rintro e w2 ⟨rfl, hg2⟩
    have HVX := hid (HVX.out.gr hg2)
    have HX2 := hid (HX1.out.trans hg2)
    have i0 := Gr.cell hg2 e0
    have i1 := Gr.cell hg2 e1
    have j00 := Gr.cell hg2 d00
    have j01 := Gr.cell hg2 d01
    have j02 := Gr.cell hg2 d02
    have j10 := Gr.cell hg2 d10
    have j11 := Gr.cell hg2 d11
    have j12 := Gr.cell hg2 d12
    clear hg2 e0 e1 d00 d01 d02 d10 d11 d12
    go_upto_region 4 with (fail)
    go_cut [7] from 14 to 21 (fun x V => Hid (AnyAt w2 (mkRat z2 k2)⁻¹ L x V))
    case first =>
      go_region_held3 (fun V => Gr w2 V ∧ V.cell? ⟨w1.heap.size, 0, none⟩ = some (.bool sx) ∧ V.cell? ⟨w1.heap.size, 1, none⟩ = some (.slice Ax nx cx) ∧ V.cell? ⟨w.heap.size, 0, none⟩ = some (.bool neg1) ∧ V.cell? ⟨w.heap.size, 1, none⟩ = some (.slice A1 l1 c1) ∧ V.cell? ⟨w.heap.size, 2, none⟩ = some (.slice A2 l2 c2) ∧ V.cell? ⟨w.heap.size + 1, 0, none⟩ = some (.bool neg2) ∧ V.cell? ⟨w.heap.size + 1, 1, none⟩ = some (.slice A3 l3 c3) ∧ V.cell? ⟨w.heap.size + 1, 2, none⟩ = some (.slice A4 l4 c4))
        ((refine (fun G => ⟨G, Gr.cell G i0, Gr.cell G i1, Gr.cell G j00, Gr.cell G j01, Gr.cell G j02, Gr.cell G j10, Gr.cell G j11, Gr.cell G j12⟩) ?_; first
          | exact (Gr.refl w2).drew
          | with_reducible exact Gr.drew (Gr.alloc _ _)
          | with_reducible exact GX2.out
          | with_reducible exact GX1.out
          | with_reducible exact Gr.al' (‹Gr w2 _ ∧ _›).1 _
          | with_reducible exact Gr.al' GX2.out _
          | ((with_reducible refine Gr.set3 GX2.out ?_) <;> (first | exact Nat.le_refl _ | exact GX2.out.size | exact GX1.out.size))
          | ((with_reducible refine Gr.set3 (‹Gr w2 _ ∧ _›).1 ?_) <;> (first | exact Nat.le_refl _ | exact GX2.out.size | exact GX1.out.size))))
        (first
          | (go_at_call 52; refine (xzmake_c _ sx g1 k2 L (HV1.out.an.gr (by first | exact Gr.refl _ | exact Gr.alloc _ _)) (by omega)).mono ?_; rintro e x2 ⟨g2, rfl, hv, hg⟩; have GX2 := hid ((‹Gr w2 _ ∧ _›).1.trans hg); (try (have B2 : Hid (Blk x2 x1.heap.size #[.bool false, .slice none 0 0, .slice none 0 0] 27) := hid ((Blk.new x1 #[.bool false, .slice none 0 0, .slice none 0 0] 27).gr hg))); (try (have B2 := hid (B1.out.gr hg))); obtain ⟨Aj, lj, cj, rfl, hv⟩ := hv.form; have HJN := hid hv.mag; obtain ⟨sj, hs⟩ : ∃ b, b = decide (sgnd sx k2 < 0) := ⟨_, rfl⟩; rw [← hs] at hv ⊢; have HJS := hid hs; have HJV := hid hv; clear hs; (try (first | (have y0 : x2.cell? ⟨w2.heap.size, 0, none⟩ = some (.bool false) := B2.out.c 0 rfl; have u0 : x2.frozen? ⟨w2.heap.size, 0, none⟩ = false := B2.out.free 0; have y1 : x2.cell? ⟨w2.heap.size, 1, none⟩ = some (.slice none 0 0) := B2.out.c 1 rfl; have u1 : x2.frozen? ⟨w2.heap.size, 1, none⟩ = false := B2.out.free 1; have y2 : x2.cell? ⟨w2.heap.size, 2, none⟩ = some (.slice none 0 0) := B2.out.c 2 rfl; have u2 : x2.frozen? ⟨w2.heap.size, 2, none⟩ = false := B2.out.free 2; have u9 : w2.heap.size < x2.heap.size := B2.out.lt) | (have y0 : x2.cell? ⟨x1.heap.size, 0, none⟩ = some (.bool false) := B2.out.c 0 rfl; have u0 : x2.frozen? ⟨x1.heap.size, 0, none⟩ = false := B2.out.free 0; have y1 : x2.cell? ⟨x1.heap.size, 1, none⟩ = some (.slice none 0 0) := B2.out.c 1 rfl; have u1 : x2.frozen? ⟨x1.heap.size, 1, none⟩ = false := B2.out.free 1; have y2 : x2.cell? ⟨x1.heap.size, 2, none⟩ = some (.slice none 0 0) := B2.out.c 2 rfl; have u2 : x2.frozen? ⟨x1.heap.size, 2, none⟩ = false := B2.out.free 2; have u9 : x1.heap.size < x2.heap.size := B2.out.lt))); clear hv hg)
          | (go_at_call 53; refine (HLW2.out _ ((HG.out.trans HX2.out).trans (‹Gr w2 _ ∧ _›).1)).mono ?_; rintro e x1 ⟨g1, rfl, hv, hg⟩; have HV1 := hid hv; have GX1 := hid ((‹Gr w2 _ ∧ _›).1.trans hg); (try (have B1 : Hid (Blk x1 w2.heap.size #[.bool false, .slice none 0 0, .slice none 0 0] 27) := hid ((Blk.new w2 #[.bool false, .slice none 0 0, .slice none 0 0] 27).gr ((Gr.refl _).drew.trans hg)))); clear hv hg))
      all_goals go_wp2_with fail
      all_goals go_meet
      all_goals refine hid ?_
      all_goals have HAQ := hid (inv_aq HJN.out (HVX.out.mag.gr GX2.out) HJS.out HSX.out HIV.out)
      all_goals first
        | with_reducible exact any_at1 GX2.out HAQ.out
        | exact any_at2 GX2.out HAQ.out B2.out (by first | exact Nat.le_refl _ | exact GX1.out.size)
    case rest =>
    obtain ⟨W5, hwc⟩ : ∃ V, V = wc := ⟨_, rfl⟩
    subst hwc
    obtain ⟨b5, t5, C5, d5, e5, E5, m5, n5, rfl, hb, hv, hg⟩ := hcut.out
    have HQI := hid hv
    have HX5 := hid (HX2.out.trans hg)
    have v0 : W5.cell? ⟨b5, 0, none⟩ = some (.bool t5) := hb.c 0 rfl
    have v1 : W5.cell? ⟨b5, 1, none⟩ = some (.slice C5 d5 e5) := hb.c 1 rfl
    have v2 : W5.cell? ⟨b5, 2, none⟩ = some (.slice E5 m5 n5) := hb.c 2 rfl
    have r00 : W5.cell? ⟨w.heap.size, 0, none⟩ = some (.bool neg1) := Gr.cell hg j00
    have r01 : W5.cell? ⟨w.heap.size, 1, none⟩ = some (.slice A1 l1 c1) := Gr.cell hg j01
    have r02 : W5.cell? ⟨w.heap.size, 2, none⟩ = some (.slice A2 l2 c2) := Gr.cell hg j02
    have r10 : W5.cell? ⟨w.heap.size + 1, 0, none⟩ = some (.bool neg2) := Gr.cell hg j10
    have r11 : W5.cell? ⟨w.heap.size + 1, 1, none⟩ = some (.slice A3 l3 c3) := Gr.cell hg j11
    have r12 : W5.cell? ⟨w.heap.size + 1, 2, none⟩ = some (.slice A4 l4 c4) := Gr.cell hg j12
    clear hcut hb hv hg i0 i1 j00 j01 j02 j10 j11 j12
    go_wp2_with fail
    refine (HML.out W5 _ _ (HA1.out.gr (HG.out.trans HX5.out)) HQI.out).mono ?_
    rintro e w6 ⟨v6, rfl, hm, hg6⟩
    have hm := hm.base (b' := W.heap.size) HX5.out.size
    have HX6 := hid (HX5.out.trans hg6)
    clear hg6
    obtain ⟨Az, nz, cz, Bz, kz, dz, rfl, hm⟩ := hm.form
    obtain ⟨bb, hbb⟩ : ∃ b, b = decide ((R).num < 0) := ⟨_, rfl⟩
    rw [← hbb] at hm ⊢
    have HVQ := hid hm
    have rc00 := (HB0.out.gr HX6.out).c 0 rfl
    have rf00 := (HB0.out.gr HX6.out).free 0
    have rc01 := (HB0.out.gr HX6.out).c 1 rfl
    have rf01 := (HB0.out.gr HX6.out).free 1
    have rc02 := (HB0.out.gr HX6.out).c 2 rfl
    have rf02 := (HB0.out.gr HX6.out).free 2
    have rl0 := (HB0.out.gr HX6.out).lt
    clear hm hbb
    go_wp2
    refine ratio_end_b rfl rfl rfl (HB0.out.gr HX6.out) ?_
    intro V hV
    have := HS.out
    have l0 := HB0.out.lt
    have a1 := HVQ.out.exb hV l0
    have a3 := (HG.out.trans HX6.out).ex hV (by omega)
    have a4 := a1.base (b' := w.heap.size) (by omega)
    exact ⟨_, rfl, a4, a3⟩
end Go.Proofs.Ytkbgdiejjabdmaa
