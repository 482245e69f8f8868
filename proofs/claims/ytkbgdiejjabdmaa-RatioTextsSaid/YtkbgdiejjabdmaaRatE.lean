/- The walks of ratio.Sign, Make, Of, Norm, Floor. -/
import Derived.Test.YtkbgdiejjabdmaaRatD
namespace Go.Proofs.Ytkbgdiejjabdmaa
open Go.RowKit

set_option maxHeartbeats 4000000 in
theorem rsign_c (w : World) (v1 : Value) (q : Rat) (L : Nat) (h1 : AQ w v1 q L) (hL1 : 1 ≤ L) (hL : L ≤ 68719476736) :
    Calls Try.prog 34 #[v1] w (Is w (.int .i64 q.num.sign)) := by
  have HA := hid h1
  obtain ⟨neg, m, d, n, k, rfl, hm1, hd1, hq⟩ := h1
  clear hq hm1 hd1 n k
  obtain ⟨s, hs⟩ : ∃ s, s = q.num.sign := ⟨_, rfl⟩
  rw [← hs]
  have HS := hid hs
  clear hs
  go_enter Try.func34, Try.ntmps34
  go_wp2_with fail
  refine (parts_c _ _ q L (HA.out.gr (Gr.alloc w _)) hL1 (by omega)).mono ?_
  rintro e w1 ⟨u, v, rfl, ⟨s1, A1, l1, c1, t1, B1, m1, d1, rfl, rfl, z1, k1, n1, hk, hq, hz, ha, hb, hc⟩, hg⟩
  have hsg : s = z1.sign := by rw [HS.out, hq, mkRat_sign _ _ hk]
  have HSG := hid hsg
  have hg := (Gr.alloc w _).trans hg
  clear hk hq hsg
  go_wp2_with fail
  obtain ⟨W1, hW⟩ : ∃ W, W = (w1.alloc (.cells #[.bool s1, .slice A1 l1 c1] 25)).alloc (.cells #[.bool t1, .slice B1 m1 d1] 25) := ⟨_, rfl⟩
  obtain ⟨hgl, b0, b1⟩ := al2 w1 #[.bool s1, .slice A1 l1 c1] #[.bool t1, .slice B1 m1 d1] 25 25
  rw [← hW] at hgl b0 b1 ⊢
  clear hW
  have HZ1 := hid (AZ.gr ⟨s1, _, n1, rfl, ha, hz⟩ hgl)
  have HN1 := hid (hb.gr hgl)
  have HD1 := hid (hc.gr hgl)
  have HB10 := hid b0
  have HB11 := hid b1
  have HGL1 := hid (hg.trans hgl)
  have hsz1 := b1.lt
  clear ha hb hc hz hg hgl b0 b1
  refine (sign_c W1 _ z1 L HZ1.out (by omega)).mono ?_
  rintro e w2 ⟨rfl, hg2⟩
  have HG2 := hid (HGL1.out.trans hg2)
  clear hg2
  go_wp2
  go_ret
  exact ⟨by rw [HSG.out]; rfl, HG2.out⟩

set_option maxHeartbeats 4000000 in
theorem rmake_c (w : World) (v1 v2 : Value) (x y : Int) (L : Nat) (h1 : AZ w v1 x L) (h2 : AZ w v2 y L) (hL1 : 1 ≤ L) (hL : L ≤ 274877906944) :
    Calls Try.prog 13 #[v1, v2] w (RetB w (decide (y ≠ 0)) fun v w' => VQ w' w.heap.size v (Rat.divInt x y) L) := by
  obtain ⟨neg1, m1, n1, rfl, hm1, hx⟩ := h1
  obtain ⟨neg2, m2, n2, rfl, hm2, hy⟩ := h2
  obtain ⟨A1, l1, cc1, rfl, hm1⟩ := hm1.form
  obtain ⟨R, hR⟩ : ∃ R, R = Rat.divInt x y := ⟨_, rfl⟩
  rw [← hR]
  have HR := hid hR
  clear hR
  have HBD : Hid (∀ V : World, AN V m2 n2 L → Calls Try.prog 39 #[m2] V (Is V (.int .i64 (bitsN n2)))) := fun V h => bits_c V _ n2 L h (by omega)
  obtain ⟨bk, hbk⟩ : ∃ b : Int, b = bitsN n2 := ⟨_, rfl⟩
  rw [← hbk] at HBD
  by_cases hk : n2 = 0
  · have hy0 : y = 0 := by rw [hy, hk]; cases neg2 <;> rfl
    have hd : decide (y ≠ 0) = false := by simp [hy0]
    rw [hd]
    have hr0 : R = 0 := by rw [HR.out, hy0, Rat.divInt_zero]
    have HR0 := hid hr0
    have hb : bk = 0 := by rw [hbk, hk]; rfl
    subst hb
    have HFIN : Hid (∀ V : World, Calls Try.prog 40 #[] V (Ret V fun v w' => VQ w' V.heap.size v 0 1)) := fun V => rzero_c V
    clear hx hy hy0 hd hr0 hbk hk
    go_enter Try.func13, Try.ntmps13
    go_wp2_with fail
    obtain ⟨W, hW⟩ : ∃ W, W = ((w.alloc (.cells #[.bool neg1, .slice A1 l1 cc1] 25)).alloc (.cells #[.bool neg2, m2] 25)).alloc (.cells #[.bool false, .slice none 0 0, .slice none 0 0] 27) := ⟨_, rfl⟩
    obtain ⟨hg, b0, b1, b2⟩ := al3 w #[.bool neg1, .slice A1 l1 cc1] #[.bool neg2, m2] #[.bool false, .slice none 0 0, .slice none 0 0] 25 25 27
    rw [← hW] at hg b0 b1 b2 ⊢
    clear hW
    have H1 := hid (hm1.gr hg)
    have H2 := hid (hm2.gr hg)
    have c00 : W.cell? ⟨w.heap.size, 0, none⟩ = some (.bool neg1) := b0.c 0 rfl
    have c01 : W.cell? ⟨w.heap.size, 1, none⟩ = some (.slice A1 l1 cc1) := b0.c 1 rfl
    have c10 : W.cell? ⟨w.heap.size + 1, 0, none⟩ = some (.bool neg2) := b1.c 0 rfl
    have c11 : W.cell? ⟨w.heap.size + 1, 1, none⟩ = some (m2) := b1.c 1 rfl
    have HB0 := hid b2
    have HG := hid hg
    have HS : Hid (w.heap.size < W.heap.size) := by have h := b2.lt; unfold Hid; omega
    clear hm1 hm2 hg b0 b1 b2
    refine (HBD.out W H2.out).mono ?_
    rintro e w1 ⟨rfl, hg1⟩
    have HG1 := hid hg1
    have y00 := Gr.cell HG1.out c00
    have y01 := Gr.cell HG1.out c01
    have y10 := Gr.cell HG1.out c10
    have y11 := Gr.cell HG1.out c11
    clear hg1
    go_wp2_with fail
    refine (HFIN.out w1).mono ?_
    rintro e w2 ⟨vr, rfl, hm, hg2⟩
    have HX := hid (HG1.out.trans hg2)
    have hm := (hm.base (b' := W.heap.size) HG1.out.size).le hL1
    clear hg2
    obtain ⟨Az, nz, cz, Bz, kz, dz, rfl, hm⟩ := hm.form
    obtain ⟨bb, hbb⟩ : ∃ b, b = decide (((0 : Rat)).num < 0) := ⟨_, rfl⟩
    rw [← hbb] at hm ⊢
    have HVQ := hid hm
    have rc00 := (HB0.out.gr HX.out).c 0 rfl
    have rf00 := (HB0.out.gr HX.out).free 0
    have rc01 := (HB0.out.gr HX.out).c 1 rfl
    have rf01 := (HB0.out.gr HX.out).free 1
    have rc02 := (HB0.out.gr HX.out).c 2 rfl
    have rf02 := (HB0.out.gr HX.out).free 2
    have rl0 := (HB0.out.gr HX.out).lt
    clear hm hbb
    go_wp2
    refine ratio_end_b rfl rfl rfl (HB0.out.gr HX.out) ?_
    intro V hV
    have l0 := HB0.out.lt
    have a1 := HVQ.out.exb hV l0
    have a3 := (HG.out.trans HX.out).ex hV (by omega)
    have a4 := a1.base (b' := w.heap.size) (by omega)
    exact ⟨_, rfl, by rw [HR0.out]; exact a4, a3⟩
  · have hy0 : y ≠ 0 := by rw [hy]; cases neg2 <;> simp <;> omega
    have hd : decide (y ≠ 0) = true := by simp [hy0]
    rw [hd]
    have hb : (bk == 0) = false := by rw [beq_eq_false_iff_ne, hbk]; have := bitsN_pos hk; omega
    have hz : mkRat (sgnd (neg1 != neg2) n1) n2 = R := by
      rw [HR.out, hx, hy, ← Rat.divInt_ofNat]
      unfold sgnd
      cases neg1 <;> cases neg2 <;> simp [Rat.divInt_neg']
    have HLW : Hid (∀ V : World, AN V (.slice A1 l1 cc1) n1 L → AN V m2 n2 L → Calls Try.prog 41 #[.agg #[.bool (neg1 != neg2), .slice A1 l1 cc1], m2] V (Ret V fun v w' => VQ w' V.heap.size v R L)) := by
      intro V a b
      have h := lowest_c V (.agg #[.bool (neg1 != neg2), .slice A1 l1 cc1]) m2 (sgnd (neg1 != neg2) n1) n2 L ⟨_, _, n1, rfl, a, rfl⟩ b hL1 (by omega)
      rw [hz] at h
      exact h
    clear hx hy hy0 hd hz hbk hk
    go_enter Try.func13, Try.ntmps13
    go_wp2_with fail
    obtain ⟨W, hW⟩ : ∃ W, W = ((w.alloc (.cells #[.bool neg1, .slice A1 l1 cc1] 25)).alloc (.cells #[.bool neg2, m2] 25)).alloc (.cells #[.bool false, .slice none 0 0, .slice none 0 0] 27) := ⟨_, rfl⟩
    obtain ⟨hg, b0, b1, b2⟩ := al3 w #[.bool neg1, .slice A1 l1 cc1] #[.bool neg2, m2] #[.bool false, .slice none 0 0, .slice none 0 0] 25 25 27
    rw [← hW] at hg b0 b1 b2 ⊢
    clear hW
    have H1 := hid (hm1.gr hg)
    have H2 := hid (hm2.gr hg)
    have c00 : W.cell? ⟨w.heap.size, 0, none⟩ = some (.bool neg1) := b0.c 0 rfl
    have c01 : W.cell? ⟨w.heap.size, 1, none⟩ = some (.slice A1 l1 cc1) := b0.c 1 rfl
    have c10 : W.cell? ⟨w.heap.size + 1, 0, none⟩ = some (.bool neg2) := b1.c 0 rfl
    have c11 : W.cell? ⟨w.heap.size + 1, 1, none⟩ = some (m2) := b1.c 1 rfl
    have HB0 := hid b2
    have HG := hid hg
    have HS : Hid (w.heap.size < W.heap.size) := by have h := b2.lt; unfold Hid; omega
    clear hm1 hm2 hg b0 b1 b2
    refine (HBD.out W H2.out).mono ?_
    rintro e w1 ⟨rfl, hg1⟩
    have HG1 := hid hg1
    have y00 := Gr.cell HG1.out c00
    have y01 := Gr.cell HG1.out c01
    have y10 := Gr.cell HG1.out c10
    have y11 := Gr.cell HG1.out c11
    clear hg1
    go_wp2_with fail
    refine (HLW.out w1 (H1.out.gr HG1.out) (H2.out.gr HG1.out)).mono ?_
    rintro e w2 ⟨vr, rfl, hm, hg2⟩
    have HX := hid (HG1.out.trans hg2)
    have hm := hm.base (b' := W.heap.size) HG1.out.size
    clear hg2
    obtain ⟨Az, nz, cz, Bz, kz, dz, rfl, hm⟩ := hm.form
    obtain ⟨bb, hbb⟩ : ∃ b, b = decide ((R).num < 0) := ⟨_, rfl⟩
    rw [← hbb] at hm ⊢
    have HVQ := hid hm
    have rc00 := (HB0.out.gr HX.out).c 0 rfl
    have rf00 := (HB0.out.gr HX.out).free 0
    have rc01 := (HB0.out.gr HX.out).c 1 rfl
    have rf01 := (HB0.out.gr HX.out).free 1
    have rc02 := (HB0.out.gr HX.out).c 2 rfl
    have rf02 := (HB0.out.gr HX.out).free 2
    have rl0 := (HB0.out.gr HX.out).lt
    clear hm hbb
    go_wp2
    refine ratio_end_b rfl rfl rfl (HB0.out.gr HX.out) ?_
    intro V hV
    have l0 := HB0.out.lt
    have a1 := HVQ.out.exb hV l0
    have a3 := (HG.out.trans HX.out).ex hV (by omega)
    have a4 := a1.base (b' := w.heap.size) (by omega)
    exact ⟨_, rfl, a4, a3⟩

set_option maxHeartbeats 4000000 in
theorem rof_c (w : World) (x y : Int) (hx0 : -9223372036854775808 ≤ x) (hx1 : x ≤ 9223372036854775807) (hy0 : -9223372036854775808 ≤ y) (hy1 : y ≤ 9223372036854775807) :
    Calls Try.prog 10 #[.int .i64 x, .int .i64 y] w (RetB w (decide (y ≠ 0)) fun v w' => VQ w' w.heap.size v (Rat.divInt x y) 2) := by
  obtain ⟨R, hR⟩ : ∃ R, R = Rat.divInt x y := ⟨_, rfl⟩
  obtain ⟨bo, hbo⟩ : ∃ b, b = decide (y ≠ 0) := ⟨_, rfl⟩
  have HMK : Hid (∀ (V : World) (a b : Value), AZ V a x 2 → AZ V b y 2 → Calls Try.prog 13 #[a, b] V (RetB V bo fun v w' => VQ w' V.heap.size v R 2)) := by
    intro V a b ha hb
    have h := rmake_c V a b x y 2 ha hb (by decide) (by decide)
    rw [← hR, ← hbo] at h
    exact h
  rw [← hR, ← hbo]
  clear hR hbo
  go_enter Try.func10, Try.ntmps10
  go_wp2_with fail
  obtain ⟨W, hW⟩ : ∃ W, W = w.alloc (.cells #[.bool false, .slice none 0 0, .slice none 0 0] 27) := ⟨_, rfl⟩
  obtain ⟨hg, b0⟩ := al1 w #[.bool false, .slice none 0 0, .slice none 0 0] 27
  rw [← hW] at hg b0 ⊢
  clear hW
  have HB0 := hid b0
  have HG := hid hg
  have HS : Hid (w.heap.size < W.heap.size) := by have h := b0.lt; unfold Hid; omega
  clear hg b0
  refine (zof_c W x hx0 hx1).mono ?_
  rintro e w1 ⟨u1, rfl, hu1, hg1⟩
  have HU1 := hid hu1
  have HG1 := hid hg1
  clear hu1 hg1
  go_wp2_with fail
  refine (zof_c w1 y hy0 hy1).mono ?_
  rintro e w2 ⟨u2, rfl, hu2, hg2⟩
  have HU2 := hid hu2
  have HU1x := hid (HU1.out.gr hg2)
  have HG2 := hid (HG1.out.trans hg2)
  clear hu2 hg2
  go_wp2_with fail
  refine (HMK.out w2 u1 u2 HU1x.out.az HU2.out.az).mono ?_
  rintro e w3 ⟨vr, rfl, hm, hg3⟩
  have HX := hid (HG2.out.trans hg3)
  have hm := hm.base (b' := W.heap.size) HG2.out.size
  clear hg3
  obtain ⟨Az, nz, cz, Bz, kz, dz, rfl, hm⟩ := hm.form
  obtain ⟨bb, hbb⟩ : ∃ b, b = decide ((R).num < 0) := ⟨_, rfl⟩
  rw [← hbb] at hm ⊢
  have HVQ := hid hm
  have rc00 := (HB0.out.gr HX.out).c 0 rfl
  have rf00 := (HB0.out.gr HX.out).free 0
  have rc01 := (HB0.out.gr HX.out).c 1 rfl
  have rf01 := (HB0.out.gr HX.out).free 1
  have rc02 := (HB0.out.gr HX.out).c 2 rfl
  have rf02 := (HB0.out.gr HX.out).free 2
  have rl0 := (HB0.out.gr HX.out).lt
  clear hm hbb
  go_wp2
  refine ratio_end_b rfl rfl rfl (HB0.out.gr HX.out) ?_
  intro V hV
  have l0 := HB0.out.lt
  have a1 := HVQ.out.exb hV l0
  have a3 := (HG.out.trans HX.out).ex hV (by omega)
  have a4 := a1.base (b' := w.heap.size) (by omega)
  exact ⟨_, rfl, a4, a3⟩

set_option maxHeartbeats 4000000 in
theorem rnorm_c (w : World) (v1 : Value) (q : Rat) (L : Nat) (h1 : AQ w v1 q L) (hL1 : 1 ≤ L) (hL : L ≤ 68719476736) :
    Calls Try.prog 31 #[v1] w (Ret w fun v w' => VQ w' w.heap.size v q L) := by
  obtain ⟨neg, m, d, n, k, rfl, hm1, hd1, hq⟩ := h1
  have HLW : Hid (∀ V : World, AN V m n L → AN V d k L → Calls Try.prog 41 #[.agg #[.bool neg, m], d] V (Ret V fun v w' => VQ w' V.heap.size v q L)) := by
    intro V a b
    have h := lowest_c V (.agg #[.bool neg, m]) d (sgnd neg n) k L ⟨_, m, n, rfl, a, rfl⟩ b hL1 (by omega)
    rw [show mkRat (sgnd neg n) k = q from hq.symm] at h
    exact h
  clear hq
  go_enter Try.func31, Try.ntmps31
  go_wp2_with fail
  obtain ⟨W, hW⟩ : ∃ W, W = (w.alloc (.cells #[.bool neg, m, d] 27)).alloc (.cells #[.bool false, .slice none 0 0, .slice none 0 0] 27) := ⟨_, rfl⟩
  obtain ⟨hg, b0, b1⟩ := al2 w #[.bool neg, m, d] #[.bool false, .slice none 0 0, .slice none 0 0] 27 27
  rw [← hW] at hg b0 b1 ⊢
  clear hW
  have H1 := hid (hm1.gr hg)
  have H2 := hid (hd1.gr hg)
  have c00 : W.cell? ⟨w.heap.size, 0, none⟩ = some (.bool neg) := b0.c 0 rfl
  have c01 : W.cell? ⟨w.heap.size, 1, none⟩ = some (m) := b0.c 1 rfl
  have c02 : W.cell? ⟨w.heap.size, 2, none⟩ = some (d) := b0.c 2 rfl
  have HB0 := hid b1
  have HG := hid hg
  have HS : Hid (w.heap.size < W.heap.size) := by have h := b1.lt; unfold Hid; omega
  clear hm1 hd1 hg b0 b1
  refine (HLW.out W H1.out H2.out).mono ?_
  rintro e w2 ⟨vr, rfl, hm, hg2⟩
  have HX := hid hg2
  clear hg2
  obtain ⟨Az, nz, cz, Bz, kz, dz, rfl, hm⟩ := hm.form
  obtain ⟨bb, hbb⟩ : ∃ b, b = decide ((q).num < 0) := ⟨_, rfl⟩
  rw [← hbb] at hm ⊢
  have HVQ := hid hm
  have rc00 := (HB0.out.gr HX.out).c 0 rfl
  have rf00 := (HB0.out.gr HX.out).free 0
  have rc01 := (HB0.out.gr HX.out).c 1 rfl
  have rf01 := (HB0.out.gr HX.out).free 1
  have rc02 := (HB0.out.gr HX.out).c 2 rfl
  have rf02 := (HB0.out.gr HX.out).free 2
  have rl0 := (HB0.out.gr HX.out).lt
  clear hm hbb
  go_wp2
  refine ratio_end rfl rfl rfl (HB0.out.gr HX.out) ?_
  intro V hV
  have l0 := HB0.out.lt
  have a1 := HVQ.out.exb hV l0
  have a3 := (HG.out.trans HX.out).ex hV (by omega)
  have a4 := a1.base (b' := w.heap.size) (by omega)
  exact ⟨_, rfl, a4, a3⟩

set_option maxHeartbeats 4000000 in
theorem rneg_c (w : World) (v1 : Value) (q : Rat) (L : Nat) (h1 : AQ w v1 q L) (hL1 : 1 ≤ L) (hL : L ≤ 68719476736) :
    Calls Try.prog 33 #[v1] w (Ret w fun v w' => VQ w' w.heap.size v (-q) L) := by
  obtain ⟨neg, m, d, n, k, rfl, hm1, hd1, hq⟩ := h1
  obtain ⟨A1, l1, c1, rfl, hm1⟩ := hm1.form
  change q = mkRat (sgnd neg n) k at hq
  obtain ⟨R, hR⟩ : ∃ R, R = -q := ⟨_, rfl⟩
  rw [← hR]
  have HNG : Hid (∀ V : World, AN V (.slice A1 l1 c1) n L → Calls Try.prog 67 #[.agg #[.bool neg, .slice A1 l1 c1]] V (Ret V fun v w' => VZ w' V.heap.size v (-sgnd neg n) L)) := fun V a => zneg_c V _ (sgnd neg n) L ⟨_, _, n, rfl, a, rfl⟩ (by omega)
  have HLW : Hid (∀ (V : World) (a : Value), AZ V a (-sgnd neg n) L → AN V d k L → Calls Try.prog 41 #[a, d] V (Ret V fun v w' => VQ w' V.heap.size v R L)) := by
    intro V a ha b
    have h := lowest_c V a d (-sgnd neg n) k L ha b hL1 (by omega)
    rw [show mkRat (-sgnd neg n) k = R by rw [hR, hq, Rat.neg_mkRat]] at h
    exact h
  clear hq hR
  go_enter Try.func33, Try.ntmps33
  go_wp2
  obtain ⟨W, hW⟩ : ∃ W, W = (w.alloc (.cells #[.bool neg, .slice A1 l1 c1, d] 27)).alloc (.cells #[.bool false, .slice none 0 0, .slice none 0 0] 27) := ⟨_, rfl⟩
  obtain ⟨hg, b0, b1⟩ := al2 w #[.bool neg, .slice A1 l1 c1, d] #[.bool false, .slice none 0 0, .slice none 0 0] 27 27
  rw [← hW] at hg b0 b1 ⊢
  clear hW
  have H1 := hid (hm1.gr hg)
  have H2 := hid (hd1.gr hg)
  have c00 : W.cell? ⟨w.heap.size, 0, none⟩ = some (.bool neg) := b0.c 0 rfl
  have c01 : W.cell? ⟨w.heap.size, 1, none⟩ = some (.slice A1 l1 c1) := b0.c 1 rfl
  have c02 : W.cell? ⟨w.heap.size, 2, none⟩ = some (d) := b0.c 2 rfl
  have HB0 := hid b1
  have HG := hid hg
  have HS : Hid (w.heap.size < W.heap.size) := by have h := b1.lt; unfold Hid; omega
  clear hm1 hd1 hg b0 b1
  go_region_held3 (fun V => V.cell? ⟨w.heap.size, 0, none⟩ = some (.bool neg) ∧ V.cell? ⟨w.heap.size, 1, none⟩ = some (.slice A1 l1 c1) ∧ V.cell? ⟨w.heap.size, 2, none⟩ = some (d))
    (first
      | exact ⟨c00, c01, c02⟩
      | with_reducible exact ⟨Gr.cell HX1.out c00, Gr.cell HX1.out c01, Gr.cell HX1.out c02⟩
      | with_reducible exact ⟨Gr.cell HX2.out c00, Gr.cell HX2.out c01, Gr.cell HX2.out c02⟩
      | with_reducible exact ⟨set3 (by dsimp only; omega) (Gr.cell HX2.out c00), set3 (by dsimp only; omega) (Gr.cell HX2.out c01), set3 (by dsimp only; omega) (Gr.cell HX2.out c02)⟩)
    (first
      | (go_at_call 41; refine (HLW.out w1 g1 HV1.out.az (H2.out.gr HX1.out)).mono ?_; rintro e w2 ⟨vr, rfl, hm, hg⟩; obtain ⟨Az, nz, cz, Bz, kz, dz, rfl, hm⟩ := hm.form; obtain ⟨bb, hbb⟩ : ∃ b, b = decide (R.num < 0) := ⟨_, rfl⟩; rw [← hbb] at hm ⊢; have HVQ := hid (hm.base (b' := W.heap.size) HX1.out.size); have HX2 := hid (HX1.out.trans hg); have rc00 := (HB0.out.gr HX2.out).c 0 rfl; have rf00 := (HB0.out.gr HX2.out).free 0; have rc01 := (HB0.out.gr HX2.out).c 1 rfl; have rf01 := (HB0.out.gr HX2.out).free 1; have rc02 := (HB0.out.gr HX2.out).c 2 rfl; have rf02 := (HB0.out.gr HX2.out).free 2; have rl0 := (HB0.out.gr HX2.out).lt; clear hm hg hbb)
      | (go_at_call 67; refine (HNG.out _ (H1.out.gr ((Gr.refl W).drew))).mono ?_; rintro e w1 ⟨g1, rfl, hv, hg⟩; have HV1 := hid hv; have HX1 := hid (((Gr.refl W).drew).trans hg); clear hv hg))
  go_wp2
  refine ratio_end rfl rfl rfl (HB0.out.gr HX2.out) ?_
  intro V hV
  have l0 := HB0.out.lt
  have a1 := HVQ.out.exb hV l0
  have a3 := (HG.out.trans HX2.out).ex hV (by omega)
  have a4 := a1.base (b' := w.heap.size) (by omega)
  exact ⟨_, rfl, a4, a3⟩
end Go.Proofs.Ytkbgdiejjabdmaa
