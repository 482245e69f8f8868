/- The walks of the reference's ratio Make and Of, as rational numbers. -/
import Derived.Test.YtkbgdiejjabdmaaRgD
import Derived.Deep.Cut
namespace Go.Proofs.Ytkbgdiejjabdmaa
open Go.RowKit

theorem div_pos {x y : Int} (h : 0 < y) : Rat.divInt x y = mkRat x y.natAbs := by
  obtain ⟨n, rfl⟩ := Int.eq_ofNat_of_zero_le (show 0 ≤ y by omega)
  rw [Int.natAbs_natCast]
  exact Rat.divInt_ofNat x n
theorem div_neg {x y : Int} (h : y < 0) : Rat.divInt x y = mkRat (-x) y.natAbs := by
  have h1 := div_pos (x := -x) (y := -y) (by omega)
  rw [Int.natAbs_neg] at h1
  rw [← h1]
  exact (Rat.neg_divInt_neg x y).symm
theorem VZ.mag {w : World} {b : Nat} {x m : Value} {z : Int} {L : Nat} (h : VZ w b (.agg #[x, m]) z L) : VN w b m z.natAbs L := by
  obtain ⟨m', he, h3⟩ := h
  injection he with he
  have e2 : m = m' := by have := congrArg (·[1]?) he; simpa using this
  subst e2
  exact h3

set_option maxHeartbeats 4000000 in
theorem xrmake_c (w : World) (v1 v2 : Value) (x y : Int) (L : Nat) (h1 : AZ w v1 x L) (h2 : AZ w v2 y L) (hL1 : 1 ≤ L) (hL : L ≤ 137438953472) :
    Calls Try.prog 14 #[v1, v2] w (RetB w (decide (y ≠ 0)) fun v w' => VQ w' w.heap.size v (Rat.divInt x y) L) := by
  have HX := hid h1
  have HY := hid h2
  obtain ⟨neg1, m1, n1, rfl, hm1, hx⟩ := h1
  obtain ⟨neg2, m2, n2, rfl, hm2, hy⟩ := h2
  clear hm1 hx n1 hm2 hy n2
  obtain ⟨R, hR⟩ : ∃ R, R = Rat.divInt x y := ⟨_, rfl⟩
  rw [← hR]
  by_cases hy0 : y = 0
  · have hd : decide (y ≠ 0) = false := by simp [hy0]
    rw [hd]
    have hr0 : R = 0 := by rw [hR, hy0, Rat.divInt_zero]
    have HR0 := hid hr0
    have HBD : Hid (∀ (V : World) (m : Value), AN V m y.natAbs L → Calls Try.prog 43 #[m] V (Is V (.int .i64 0))) := fun V m h => by
      have h := xbits_c V m _ L h (by omega)
      rwa [show bitsN y.natAbs = 0 by rw [hy0]; rfl] at h
    clear hR hr0 hd hy0
    go_enter Try.func14, Try.ntmps14
    go_wp2_with fail
    obtain ⟨W, hW⟩ : ∃ W, W = ((w.alloc (.cells #[.bool neg1, m1] 25)).alloc (.cells #[.bool neg2, m2] 25)).alloc (.cells #[.bool false, .slice none 0 0, .slice none 0 0] 27) := ⟨_, rfl⟩
    obtain ⟨hg, b0, b1, b2⟩ := al3 w #[.bool neg1, m1] #[.bool neg2, m2] #[.bool false, .slice none 0 0, .slice none 0 0] 25 25 27
    rw [← hW] at hg b0 b1 b2 ⊢
    clear hW
    have c00 : W.cell? ⟨w.heap.size, 0, none⟩ = some (.bool neg1) := b0.c 0 rfl
    have c01 : W.cell? ⟨w.heap.size, 1, none⟩ = some (m1) := b0.c 1 rfl
    have c10 : W.cell? ⟨w.heap.size + 1, 0, none⟩ = some (.bool neg2) := b1.c 0 rfl
    have c11 : W.cell? ⟨w.heap.size + 1, 1, none⟩ = some (m2) := b1.c 1 rfl
    have HB0 := hid b2
    have HG := hid hg
    have HS : Hid (w.heap.size < W.heap.size) := by have h := b2.lt; unfold Hid; omega
    clear hg b0 b1 b2
    refine (xznorm_c W _ y L (HY.out.gr HG.out) (by omega)).mono ?_
    rintro e w1 ⟨v, rfl, hv, hg1⟩
    obtain ⟨Ay, ny, cy, rfl, hv⟩ := hv.form
    obtain ⟨sy, hsy⟩ : ∃ s, s = decide (y < 0) := ⟨_, rfl⟩
    rw [← hsy] at hv ⊢
    have HSY := hid hsy
    clear hsy
    obtain ⟨W1, hW1⟩ : ∃ V, V = w1.alloc (.cells #[.bool sy, .slice Ay ny cy] 25) := ⟨_, rfl⟩
    go_upto_region 2 with (fail)
    obtain ⟨hgl, bl⟩ := al1 w1 #[.bool sy, .slice Ay ny cy] 25
    rw [← hW1] at hgl bl ⊢
    clear hW1
    have HVN := hid (hv.mag.gr hgl)
    have HG1 := hid (hg1.trans hgl)
    have e0 : W1.cell? ⟨w1.heap.size, 0, none⟩ = some (.bool sy) := bl.c 0 rfl
    have e1 : W1.cell? ⟨w1.heap.size, 1, none⟩ = some (.slice Ay ny cy) := bl.c 1 rfl
    have e2 : W1.cell? ⟨w.heap.size, 0, none⟩ = some (.bool neg1) := Gr.cell HG1.out c00
    have e3 : W1.cell? ⟨w.heap.size, 1, none⟩ = some (m1) := Gr.cell HG1.out c01
    clear hv hg1 hgl bl c00 c01 c10 c11
    go_wp2_with fail
    refine (HBD.out W1 _ HVN.out.an).mono ?_
    rintro e w2 ⟨rfl, hg2⟩
    have HG2 := hid (HG1.out.trans hg2)
    have HV2 := hid (HVN.out.gr hg2)
    have f0 := Gr.cell hg2 e0
    have f1 := Gr.cell hg2 e1
    have f2 := Gr.cell hg2 e2
    have f3 := Gr.cell hg2 e3
    clear hg2 e0 e1 e2 e3
    go_wp2_with fail
    refine (xrzero_c w2).mono ?_
    rintro e w4 ⟨v4, rfl, hm, hg4⟩
    have hm := hm.base (b' := W.heap.size) HG2.out.size
    have HG4 := hid (HG2.out.trans hg4)
    clear hg4
    obtain ⟨Az, nz, cz, Bz, kz, dz, rfl, hm⟩ := hm.form
    obtain ⟨bb, hbb⟩ : ∃ b, b = decide (((0 : Rat)).num < 0) := ⟨_, rfl⟩
    rw [← hbb] at hm ⊢
    have HVQ := hid hm
    have rc00 := (HB0.out.gr HG4.out).c 0 rfl
    have rf00 := (HB0.out.gr HG4.out).free 0
    have rc01 := (HB0.out.gr HG4.out).c 1 rfl
    have rf01 := (HB0.out.gr HG4.out).free 1
    have rc02 := (HB0.out.gr HG4.out).c 2 rfl
    have rf02 := (HB0.out.gr HG4.out).free 2
    have rl0 := (HB0.out.gr HG4.out).lt
    clear hm hbb
    go_wp2
    refine ratio_end_b rfl rfl rfl (HB0.out.gr HG4.out) ?_
    intro V hV
    have l0 := HB0.out.lt
    have a1 := HVQ.out.exb hV l0
    have a3 := (HG.out.trans HG4.out).ex hV (by omega)
    have a4 := a1.base (b' := w.heap.size) (by omega)
    refine ⟨_, rfl, ?_, a3⟩
    rw [HR0.out]
    exact a4.le hL1
  · have hd : decide (y ≠ 0) = true := decide_eq_true hy0
    rw [hd]
    obtain ⟨bn, hbn⟩ : ∃ b : Int, b = bitsN y.natAbs := ⟨_, rfl⟩
    have HBD : Hid (∀ (V : World) (m : Value), AN V m y.natAbs L → Calls Try.prog 43 #[m] V (Is V (.int .i64 bn))) := fun V m h => by
      have h := xbits_c V m _ L h (by omega)
      rwa [← hbn] at h
    have hb : (bn == 0) = false := by rw [beq_eq_false_iff_ne, hbn]; have := bitsN_pos (n := y.natAbs) (by omega); omega
    have HRD : Hid (∀ (V : World) (a b : Value), 0 < y → AZ V a x L → AN V b y.natAbs L → Calls Try.prog 46 #[a, b] V (Ret V fun v w' => VQ w' V.heap.size v R L)) := fun V a b hp h1 h2 => by
      have h := xreduce_c V a b x y.natAbs L h1 h2 (by omega) hL1 hL
      rwa [← div_pos hp, ← hR] at h
    have HRN : Hid (∀ (V : World) (a b : Value), y < 0 → AZ V a (-x) L → AN V b y.natAbs L → Calls Try.prog 46 #[a, b] V (Ret V fun v w' => VQ w' V.heap.size v R L)) := fun V a b hp h1 h2 => by
      have h := xreduce_c V a b (-x) y.natAbs L h1 h2 (by omega) hL1 hL
      rwa [← div_neg hp, ← hR] at h
    have HY0 := hid hy0
    clear hR hd hy0 hbn
    go_enter Try.func14, Try.ntmps14
    go_wp2_with fail
    obtain ⟨W, hW⟩ : ∃ W, W = ((w.alloc (.cells #[.bool neg1, m1] 25)).alloc (.cells #[.bool neg2, m2] 25)).alloc (.cells #[.bool false, .slice none 0 0, .slice none 0 0] 27) := ⟨_, rfl⟩
    obtain ⟨hg, b0, b1, b2⟩ := al3 w #[.bool neg1, m1] #[.bool neg2, m2] #[.bool false, .slice none 0 0, .slice none 0 0] 25 25 27
    rw [← hW] at hg b0 b1 b2 ⊢
    clear hW
    have c00 : W.cell? ⟨w.heap.size, 0, none⟩ = some (.bool neg1) := b0.c 0 rfl
    have c01 : W.cell? ⟨w.heap.size, 1, none⟩ = some (m1) := b0.c 1 rfl
    have c10 : W.cell? ⟨w.heap.size + 1, 0, none⟩ = some (.bool neg2) := b1.c 0 rfl
    have c11 : W.cell? ⟨w.heap.size + 1, 1, none⟩ = some (m2) := b1.c 1 rfl
    have HB0 := hid b2
    have HG := hid hg
    have HS : Hid (w.heap.size < W.heap.size) := by have h := b2.lt; unfold Hid; omega
    clear hg b0 b1 b2
    refine (xznorm_c W _ y L (HY.out.gr HG.out) (by omega)).mono ?_
    rintro e w1 ⟨v, rfl, hv, hg1⟩
    obtain ⟨Ay, ny, cy, rfl, hv⟩ := hv.form
    obtain ⟨sy, hsy⟩ : ∃ s, s = decide (y < 0) := ⟨_, rfl⟩
    rw [← hsy] at hv ⊢
    have HSY := hid hsy
    clear hsy
    obtain ⟨W1, hW1⟩ : ∃ V, V = w1.alloc (.cells #[.bool sy, .slice Ay ny cy] 25) := ⟨_, rfl⟩
    go_upto_region 2 with (fail)
    obtain ⟨hgl, bl⟩ := al1 w1 #[.bool sy, .slice Ay ny cy] 25
    rw [← hW1] at hgl bl ⊢
    clear hW1
    have HVN := hid (hv.mag.gr hgl)
    have HG1 := hid (hg1.trans hgl)
    have e0 : W1.cell? ⟨w1.heap.size, 0, none⟩ = some (.bool sy) := bl.c 0 rfl
    have e1 : W1.cell? ⟨w1.heap.size, 1, none⟩ = some (.slice Ay ny cy) := bl.c 1 rfl
    have e2 : W1.cell? ⟨w.heap.size, 0, none⟩ = some (.bool neg1) := Gr.cell HG1.out c00
    have e3 : W1.cell? ⟨w.heap.size, 1, none⟩ = some (m1) := Gr.cell HG1.out c01
    clear hv hg1 hgl bl c00 c01 c10 c11
    go_wp2_with fail
    refine (HBD.out W1 _ HVN.out.an).mono ?_
    rintro e w2 ⟨rfl, hg2⟩
    have HG2 := hid (HG1.out.trans hg2)
    have HV2 := hid (HVN.out.gr hg2)
    have f0 := Gr.cell hg2 e0
    have f1 := Gr.cell hg2 e1
    have f2 := Gr.cell hg2 e2
    have f3 := Gr.cell hg2 e3
    clear hg2 e0 e1 e2 e3
    go_wp2_with fail
    refine (xznorm_c w2 _ x L (HX.out.gr (HG.out.trans HG2.out)) (by omega)).mono ?_
    rintro e w3 ⟨v3, rfl, hv3, hg3⟩
    obtain ⟨Ax, nx, cx, rfl, hv3⟩ := hv3.form
    obtain ⟨sx, hsx⟩ : ∃ s, s = decide (x < 0) := ⟨_, rfl⟩
    rw [← hsx] at hv3 ⊢
    clear hsx
    obtain ⟨W3, hW3⟩ : ∃ V, V = w3.alloc (.cells #[.bool sx, .slice Ax nx cx] 25) := ⟨_, rfl⟩
    go_upto_region 5 with (fail)
    obtain ⟨hgl, bl⟩ := al1 w3 #[.bool sx, .slice Ax nx cx] 25
    rw [← hW3] at hgl bl ⊢
    clear hW3
    have HXV := hid (hv3.gr hgl)
    have HYV := hid (HV2.out.gr hg3)
    have HG3w := hid (HG2.out.trans hg3)
    have HGL := hid hgl
    have HBL := hid bl
    have HG3 := hid (HG3w.out.trans hgl)
    have i0 : W3.cell? ⟨w1.heap.size, 0, none⟩ = some (.bool sy) := Gr.cell (hg3.trans hgl) f0
    have i1 : W3.cell? ⟨w1.heap.size, 1, none⟩ = some (.slice Ay ny cy) := Gr.cell (hg3.trans hgl) f1
    have i2 : W3.cell? ⟨w3.heap.size, 0, none⟩ = some (.bool sx) := bl.c 0 rfl
    have i3 : W3.cell? ⟨w3.heap.size, 1, none⟩ = some (.slice Ax nx cx) := bl.c 1 rfl
    have hlt13 : w1.heap.size < w3.heap.size := Nat.lt_of_lt_of_le (World.block_lt_of_cell? w2 _ f0) hg3.size
    clear hv3 hg3 hgl bl f0 f1 f2 f3
    cases sy with
    | false =>
      have hyp : 0 < y := by have h1 := HSY.out; have h2 := HY0.out; have h3 : ¬ y < 0 := by simpa using h1.symm
                             omega
      have HYP := hid hyp
      clear hyp
      go_wp2_with fail
      refine (HRD.out W3 _ _ HYP.out HXV.out.az (HYV.out.an.gr HGL.out)).mono ?_
      rintro e w5 ⟨v5, rfl, hm, hg5⟩
      have hm := hm.base (b' := W.heap.size) HG3.out.size
      have HG5 := hid (HG3.out.trans hg5)
      clear hg5
      obtain ⟨Az, nz, cz, Bz, kz, dz, rfl, hm⟩ := hm.form
      obtain ⟨bb, hbb⟩ : ∃ b, b = decide ((R).num < 0) := ⟨_, rfl⟩
      rw [← hbb] at hm ⊢
      have HVQ := hid hm
      have rc00 := (HB0.out.gr HG5.out).c 0 rfl
      have rf00 := (HB0.out.gr HG5.out).free 0
      have rc01 := (HB0.out.gr HG5.out).c 1 rfl
      have rf01 := (HB0.out.gr HG5.out).free 1
      have rc02 := (HB0.out.gr HG5.out).c 2 rfl
      have rf02 := (HB0.out.gr HG5.out).free 2
      have rl0 := (HB0.out.gr HG5.out).lt
      clear hm hbb
      go_wp2
      refine ratio_end_b rfl rfl rfl (HB0.out.gr HG5.out) ?_
      intro V hV
      have l0 := HB0.out.lt
      have a1 := HVQ.out.exb hV l0
      have a3 := (HG.out.trans HG5.out).ex hV (by omega)
      have a4 := a1.base (b' := w.heap.size) (by omega)
      exact ⟨_, rfl, a4, a3⟩
    | true =>
      have hyp : y < 0 := by have h1 := HSY.out; simpa using h1.symm
      have HYP := hid hyp
      clear hyp
      go_wp2_with fail
      refine (xzneg_c W3 _ x L HXV.out.az (by omega)).mono ?_
      rintro e w4 ⟨v4, rfl, hv4, hg4⟩
      obtain ⟨Ak, nk, ck, rfl, hv4⟩ := hv4.form
      obtain ⟨sk, hsk⟩ : ∃ s, s = decide (-x < 0) := ⟨_, rfl⟩
      rw [← hsk] at hv4 ⊢
      clear hsk
      have hb4 := HBL.out.gr hg4
      have j0 : w4.cell? ⟨w1.heap.size, 0, none⟩ = some (.bool true) := Gr.cell hg4 i0
      have j1 : w4.cell? ⟨w1.heap.size, 1, none⟩ = some (.slice Ay ny cy) := Gr.cell hg4 i1
      have j2 : w4.cell? ⟨w3.heap.size, 0, none⟩ = some (.bool sx) := hb4.c 0 rfl
      have j3 : w4.cell? ⟨w3.heap.size, 1, none⟩ = some (.slice Ax nx cx) := hb4.c 1 rfl
      have j4 : w4.frozen? ⟨w3.heap.size, 0, none⟩ = false := hb4.free 0
      have j5 : w4.frozen? ⟨w3.heap.size, 1, none⟩ = false := hb4.free 1
      have j6 : w3.heap.size < w4.heap.size := hb4.lt
      have HG4 := hid hg4
      have HV4 := hid hv4
      have HB4 := hid hb4
      clear hv4 hg4 hb4 i0 i1 i2 i3
      go_upto_region 7 with (fail)
      obtain ⟨W5, hW5⟩ : ∃ V, V = (w4.setCell ⟨w3.heap.size, 0, none⟩ (.bool sk)).setCell ⟨w3.heap.size, 1, none⟩ (.slice Ak nk ck) := ⟨_, rfl⟩
      have hx : Ex w3.heap.size w4 W5 := by rw [hW5]; exact ((Ex.refl _ w4).setCell 0 _).setCell 1 _
      have hb5 : Blk W5 w3.heap.size #[.bool sk, .slice Ak nk ck] 25 := by rw [hW5]; exact (HB4.out.set 0 _).set 1 _
      rw [← hW5]
      clear hW5
      have HG35 := hid ((HGL.out.trans HG4.out).ex hx (Nat.le_refl _))
      have HZV := hid (HV4.out.exb hx HBL.out.lt)
      have HG5w := hid (HG3w.out.trans HG35.out)
      have k0 : W5.cell? ⟨w1.heap.size, 0, none⟩ = some (.bool true) := (hx.cell (p := ⟨w1.heap.size, 0, none⟩) (by show w1.heap.size ≠ _; omega)).trans j0
      have k1 : W5.cell? ⟨w1.heap.size, 1, none⟩ = some (.slice Ay ny cy) := (hx.cell (p := ⟨w1.heap.size, 1, none⟩) (by show w1.heap.size ≠ _; omega)).trans j1
      have k2 : W5.cell? ⟨w3.heap.size, 0, none⟩ = some (.bool sk) := hb5.c 0 rfl
      have k3 : W5.cell? ⟨w3.heap.size, 1, none⟩ = some (.slice Ak nk ck) := hb5.c 1 rfl
      clear hx hb5 j0 j1 j2 j3 j4 j5 j6
      go_wp2_with fail
      refine (HRN.out W5 _ _ HYP.out HZV.out.az (HYV.out.an.gr HG35.out)).mono ?_
      rintro e w6 ⟨v6, rfl, hm, hg6⟩
      have hm := hm.base (b' := W.heap.size) HG5w.out.size
      have HG6 := hid (HG5w.out.trans hg6)
      clear hg6
      obtain ⟨Az, nz, cz, Bz, kz, dz, rfl, hm⟩ := hm.form
      obtain ⟨bb, hbb⟩ : ∃ b, b = decide ((R).num < 0) := ⟨_, rfl⟩
      rw [← hbb] at hm ⊢
      have HVQ := hid hm
      have rc00 := (HB0.out.gr HG6.out).c 0 rfl
      have rf00 := (HB0.out.gr HG6.out).free 0
      have rc01 := (HB0.out.gr HG6.out).c 1 rfl
      have rf01 := (HB0.out.gr HG6.out).free 1
      have rc02 := (HB0.out.gr HG6.out).c 2 rfl
      have rf02 := (HB0.out.gr HG6.out).free 2
      have rl0 := (HB0.out.gr HG6.out).lt
      clear hm hbb
      go_wp2
      refine ratio_end_b rfl rfl rfl (HB0.out.gr HG6.out) ?_
      intro V hV
      have l0 := HB0.out.lt
      have a1 := HVQ.out.exb hV l0
      have a3 := (HG.out.trans HG6.out).ex hV (by omega)
      have a4 := a1.base (b' := w.heap.size) (by omega)
      exact ⟨_, rfl, a4, a3⟩

set_option maxHeartbeats 4000000 in
theorem xrof_c (w : World) (x y : Int) (hx0 : -9223372036854775808 ≤ x) (hx1 : x ≤ 9223372036854775807) (hy0 : -9223372036854775808 ≤ y) (hy1 : y ≤ 9223372036854775807) :
    Calls Try.prog 11 #[.int .i64 x, .int .i64 y] w (RetB w (decide (y ≠ 0)) fun v w' => VQ w' w.heap.size v (Rat.divInt x y) 2) := by
  obtain ⟨R, hR⟩ : ∃ R, R = Rat.divInt x y := ⟨_, rfl⟩
  obtain ⟨bo, hbo⟩ : ∃ b, b = decide (y ≠ 0) := ⟨_, rfl⟩
  rw [← hR, ← hbo]
  have HO1 : Hid (∀ V : World, Calls Try.prog 37 #[.int .i64 x] V (Ret V fun v w' => VZ w' V.heap.size v x 2)) := fun V => xzof_c V x hx0 hx1
  have HO2 : Hid (∀ V : World, Calls Try.prog 37 #[.int .i64 y] V (Ret V fun v w' => VZ w' V.heap.size v y 2)) := fun V => xzof_c V y hy0 hy1
  have HMK : Hid (∀ (V : World) (a b : Value), AZ V a x 2 → AZ V b y 2 → Calls Try.prog 14 #[a, b] V (RetB V bo fun v w' => VQ w' V.heap.size v R 2)) := fun V a b h1 h2 => by
    have h := xrmake_c V a b x y 2 h1 h2 (by decide) (by decide)
    rw [← hR, ← hbo] at h
    exact h
  clear hR hbo hx0 hx1 hy0 hy1
  go_enter Try.func11, Try.ntmps11
  go_wp2_with fail
  obtain ⟨W, hW⟩ : ∃ W, W = w.alloc (.cells #[.bool false, .slice none 0 0, .slice none 0 0] 27) := ⟨_, rfl⟩
  obtain ⟨hg, b0⟩ := al1 w #[.bool false, .slice none 0 0, .slice none 0 0] 27
  rw [← hW] at hg b0 ⊢
  clear hW
  have HB0 := hid b0
  have HG := hid hg
  have HS : Hid (w.heap.size < W.heap.size) := by have h := b0.lt; unfold Hid; omega
  clear hg b0
  refine (HO1.out W).mono ?_
  rintro e w1 ⟨v1, rfl, hv1, hg1⟩
  have HV1 := hid hv1
  have HG1 := hid hg1
  clear hv1 hg1
  go_wp2_with fail
  refine (HO2.out w1).mono ?_
  rintro e w2 ⟨v2, rfl, hv2, hg2⟩
  have HV2 := hid hv2
  have HV12 := hid (HV1.out.gr hg2)
  have HG2 := hid (HG1.out.trans hg2)
  clear hv2 hg2
  go_wp2_with fail
  refine (HMK.out w2 _ _ HV12.out.az HV2.out.az).mono ?_
  rintro e w3 ⟨v3, rfl, hm, hg3⟩
  have hm := hm.base (b' := W.heap.size) HG2.out.size
  have HG3 := hid (HG2.out.trans hg3)
  clear hg3
  obtain ⟨Az, nz, cz, Bz, kz, dz, rfl, hm⟩ := hm.form
  obtain ⟨bb, hbb⟩ : ∃ b, b = decide ((R).num < 0) := ⟨_, rfl⟩
  rw [← hbb] at hm ⊢
  have HVQ := hid hm
  have rc00 := (HB0.out.gr HG3.out).c 0 rfl
  have rf00 := (HB0.out.gr HG3.out).free 0
  have rc01 := (HB0.out.gr HG3.out).c 1 rfl
  have rf01 := (HB0.out.gr HG3.out).free 1
  have rc02 := (HB0.out.gr HG3.out).c 2 rfl
  have rf02 := (HB0.out.gr HG3.out).free 2
  have rl0 := (HB0.out.gr HG3.out).lt
  clear hm hbb
  go_wp2
  refine ratio_end_b rfl rfl rfl (HB0.out.gr HG3.out) ?_
  intro V hV
  have l0 := HB0.out.lt
  have a1 := HVQ.out.exb hV l0
  have a3 := (HG.out.trans HG3.out).ex hV (by omega)
  have a4 := a1.base (b' := w.heap.size) (by omega)
  exact ⟨_, rfl, a4, a3⟩
end Go.Proofs.Ytkbgdiejjabdmaa
