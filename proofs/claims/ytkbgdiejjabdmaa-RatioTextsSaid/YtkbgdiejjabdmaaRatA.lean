/- The walks of ratio.zero, whole, lowest, parts, as rational numbers. -/
import Derived.Test.YtkbgdiejjabdmaaRatP
namespace Go.Proofs.Ytkbgdiejjabdmaa
open Go.RowKit

set_option maxHeartbeats 4000000 in
theorem rzero_c (w : World) : Calls Try.prog 40 #[] w (Ret w fun v w' => VQ w' w.heap.size v 0 1) := by
  go_enter Try.func40, Try.ntmps40
  go_wp2_with fail
  obtain ⟨W, hW⟩ : ∃ W, W = w.alloc (.cells #[.bool false, .slice none 0 0, .slice none 0 0] 27) := ⟨_, rfl⟩
  obtain ⟨hg, b0⟩ := al1 w #[.bool false, .slice none 0 0, .slice none 0 0] 27
  rw [← hW] at hg b0 ⊢
  clear hW
  have HB0 := hid b0
  have HG := hid hg
  have HS : Hid (w.heap.size < W.heap.size) := by have h := b0.lt; unfold Hid; omega
  clear hg b0
  refine (of_c W 1 (by decide) (by decide)).mono ?_
  rintro e w2 ⟨v2, rfl, hm, hg2⟩
  obtain ⟨A, l, c, rfl, hm⟩ := VN.form hm
  have HV2 : Hid (VN w2 W.heap.size (.slice A l c) 1 1) := VN.one hm (by decide)
  have HG2 := hid hg2
  have d00 := (HB0.out.gr HG2.out).c 0 rfl
  have e00 := (HB0.out.gr HG2.out).free 0
  have d01 := (HB0.out.gr HG2.out).c 1 rfl
  have e01 := (HB0.out.gr HG2.out).free 1
  have d02 := (HB0.out.gr HG2.out).c 2 rfl
  have e02 := (HB0.out.gr HG2.out).free 2
  have f0 := (HB0.out.gr HG2.out).lt
  clear hm hg2
  go_wp2
  refine ratio_end rfl rfl rfl (HB0.out.gr HG2.out) ?_
  intro V hV
  have l0 := HB0.out.lt
  have a1 := HV2.out.exb hV l0
  have a3 := (HG.out.trans HG2.out).ex hV (by omega)
  exact ⟨_, rfl, VQ.zero' (a1.base (by omega)), a3⟩

set_option maxHeartbeats 4000000 in
theorem whole_c (w : World) (v : Value) (k L : Nat) (h : AN w v k L) (hL : L ≤ 274877906944) : Calls Try.prog 81 #[v] w (Ret w fun v w' => VZ w' w.heap.size v (k : Int) L) := by
  go_enter Try.func81, Try.ntmps81
  go_wp2_with fail
  obtain ⟨W, hW⟩ : ∃ W, W = w.alloc (.cells #[.bool false, .slice none 0 0] 25) := ⟨_, rfl⟩
  obtain ⟨hg, b0⟩ := al1 w #[.bool false, .slice none 0 0] 25
  rw [← hW] at hg b0 ⊢
  clear hW
  have H1 := hid (h.gr hg)
  have HB0 := hid b0
  have HG := hid hg
  have HS : Hid (w.heap.size < W.heap.size) := by have h := b0.lt; unfold Hid; omega
  clear h hg b0
  refine (make_c W false v k L H1.out (by omega)).mono ?_
  rintro e w2 ⟨v2, rfl, hm, hg2⟩
  have hm : VZ w2 W.heap.size v2 (k : Int) L := hm
  obtain ⟨A, n, c, rfl, hm⟩ := hm.form
  obtain ⟨bb, hbb⟩ : ∃ b, b = decide ((k : Int) < 0) := ⟨_, rfl⟩
  rw [← hbb] at hm ⊢
  have HV2 := hid hm
  have HG2 := hid hg2
  have d00 := (HB0.out.gr HG2.out).c 0 rfl
  have e00 := (HB0.out.gr HG2.out).free 0
  have d01 := (HB0.out.gr HG2.out).c 1 rfl
  have e01 := (HB0.out.gr HG2.out).free 1
  have f0 := (HB0.out.gr HG2.out).lt
  clear hm hg2 hbb
  go_wp2
  refine int_end rfl rfl rfl (HB0.out.gr HG2.out) ?_
  intro V hV
  have l0 := HB0.out.lt
  have a1 := HV2.out.exb hV l0
  have a3 := (HG.out.trans HG2.out).ex hV (by omega)
  have a4 := a1.base (b' := w.heap.size) (by omega)
  exact ⟨_, rfl, a4, a3⟩

set_option maxHeartbeats 4000000 in
theorem lowest_c (w : World) (v1 v2 : Value) (z : Int) (k L : Nat) (h1 : AZ w v1 z L) (h2 : AN w v2 k L) (hL1 : 1 ≤ L) (hL : L ≤ 274877906944) :
    Calls Try.prog 41 #[v1, v2] w (Ret w fun v w' => VQ w' w.heap.size v (mkRat z k) L) := by
  obtain ⟨neg, m, n, rfl, hm1, hx⟩ := h1
  have hx : z = sgnd neg n := hx
  have hcase : ((k = 0) ∨ (k ≠ 0 ∧ n = 0)) ∨ (k ≠ 0 ∧ n ≠ 0) := by omega
  have HBD : Hid (∀ V : World, AN V v2 k L → Calls Try.prog 39 #[v2] V (Is V (.int .i64 (bitsN k)))) := fun V h => bits_c V v2 k L h (by omega)
  have HBN : Hid (∀ V : World, AN V m n L → Calls Try.prog 39 #[m] V (Is V (.int .i64 (bitsN n)))) := fun V h => bits_c V m n L h (by omega)
  have HGC : Hid (∀ V : World, AN V m n L → AN V v2 k L → Calls Try.prog 66 #[m, v2] V (Ret V fun v w' => VN w' V.heap.size v (Nat.gcd n k) L)) := fun V a b => gcd_c V m v2 n k L a b (by omega)
  obtain ⟨q, hq⟩ : ∃ q, q = mkRat z k := ⟨_, rfl⟩
  rw [← hq]
  rcases hcase with h0 | ⟨hk, hn⟩
  · have hq0 : q = 0 := by
      rw [hq, hx]
      rcases h0 with h | ⟨_, h⟩
      · rw [h, Rat.mkRat_zero]
      · rw [h, sgnd_zero, Rat.zero_mkRat]
    have HQ0 := hid hq0
    have hbits : ((bitsN k : Int) = 0) ∨ ((bitsN k : Int) ≠ 0 ∧ (bitsN n : Int) = 0) := by
      rcases h0 with h | ⟨h1, h2⟩
      · left; rw [h]; rfl
      · right; rw [h2]; exact ⟨by have := bitsN_pos h1; omega, rfl⟩
    obtain ⟨bk, hbk⟩ : ∃ b : Int, b = bitsN k := ⟨_, rfl⟩
    obtain ⟨bn, hbn⟩ : ∃ b : Int, b = bitsN n := ⟨_, rfl⟩
    rw [← hbk, ← hbn] at hbits
    rw [← hbk] at HBD
    rw [← hbn] at HBN
    clear hq0 hq hx h0 hbk hbn
    go_enter Try.func41, Try.ntmps41
    go_wp2_with fail
    obtain ⟨W, hW⟩ : ∃ W, W = (w.alloc (.cells #[.bool neg, m] 25)).alloc (.cells #[.bool false, .slice none 0 0, .slice none 0 0] 27) := ⟨_, rfl⟩
    obtain ⟨hg, b0, b1⟩ := al2 w #[.bool neg, m] #[.bool false, .slice none 0 0, .slice none 0 0] 25 27
    rw [← hW] at hg b0 b1 ⊢
    clear hW
    have H1 := hid (hm1.gr hg)
    have H2 := hid (h2.gr hg)
    have c00 : W.cell? ⟨w.heap.size, 0, none⟩ = some (.bool neg) := b0.c 0 rfl
    have c01 : W.cell? ⟨w.heap.size, 1, none⟩ = some (m) := b0.c 1 rfl
    have HB0 := hid b1
    have HG := hid hg
    have HS : Hid (w.heap.size < W.heap.size) := by have h := b1.lt; unfold Hid; omega
    clear hm1 h2 hg b0 b1
    refine (HGC.out W H1.out H2.out).mono ?_
    rintro e w1 ⟨g, rfl, hgc, hg1⟩
    have HV1 := hid hgc
    have HG1 := hid hg1
    have d01 := Gr.cell HG1.out c01
    clear hgc hg1
    have HZR : Hid (∀ (V : World) (v : Value), VQ V W.heap.size v 0 1 → VQ V W.heap.size v q L) := fun V v h => by
      rw [HQ0.out]; exact h.le (by omega)
    have fin : ∀ V : World, Gr W V → Calls Try.prog 40 #[] V (Ret V fun v w' => VQ w' V.heap.size v 0 1) := fun V _ => rzero_c V
    have HFIN := hid fin
    clear fin
    rcases hbits with hb | ⟨hb1, hb2⟩
    · subst hb
      go_wp2_with fail
      refine (HBD.out w1 (H2.out.gr HG1.out)).mono ?_
      rintro e w2 ⟨rfl, hg2⟩
      have HGP := hid (HG1.out.trans hg2)
      clear hg2
      go_wp2_with fail
      refine (HFIN.out w2 HGP.out).mono ?_
      rintro e w4 ⟨v4, rfl, hm, hg4⟩
      obtain ⟨A, n', c, B, k', d, rfl, hm⟩ := hm.form
      obtain ⟨bb, hbb⟩ : ∃ b, b = decide ((0 : Rat).num < 0) := ⟨_, rfl⟩
      rw [← hbb] at hm ⊢
      have HV4 := hid (hm.base (b' := W.heap.size) HGP.out.size)
      have HG4 := hid (HGP.out.trans hg4)
      have d00 := (HB0.out.gr HG4.out).c 0 rfl
      have e00 := (HB0.out.gr HG4.out).free 0
      have d01 := (HB0.out.gr HG4.out).c 1 rfl
      have e01 := (HB0.out.gr HG4.out).free 1
      have d02 := (HB0.out.gr HG4.out).c 2 rfl
      have e02 := (HB0.out.gr HG4.out).free 2
      have f0 := (HB0.out.gr HG4.out).lt
      clear hm hg4 hbb
      go_wp2
      refine ratio_end rfl rfl rfl (HB0.out.gr HG4.out) ?_
      intro V hV
      have l0 := HB0.out.lt
      have a1 := HZR.out _ _ (HV4.out.exb hV l0)
      have a3 := (HG.out.trans HG4.out).ex hV (by omega)
      have a4 := a1.base (b' := w.heap.size) (by omega)
      exact ⟨_, rfl, a4, a3⟩
    · subst hb2
      have hb3 : (bk == 0) = false := by rw [beq_eq_false_iff_ne]; exact hb1
      go_wp2_with fail
      refine (HBD.out w1 (H2.out.gr HG1.out)).mono ?_
      rintro e w2 ⟨rfl, hg2⟩
      have HG2 := hid (HG1.out.trans hg2)
      have d01 := Gr.cell HG2.out c01
      clear hg2
      go_wp2_with fail
      refine (HBN.out w2 (H1.out.gr HG2.out)).mono ?_
      rintro e w3 ⟨rfl, hg3⟩
      have HGP := hid (HG2.out.trans hg3)
      clear hg3
      go_wp2_with fail
      refine (HFIN.out w3 HGP.out).mono ?_
      rintro e w4 ⟨v4, rfl, hm, hg4⟩
      obtain ⟨A, n', c, B, k', d, rfl, hm⟩ := hm.form
      obtain ⟨bb, hbb⟩ : ∃ b, b = decide ((0 : Rat).num < 0) := ⟨_, rfl⟩
      rw [← hbb] at hm ⊢
      have HV4 := hid (hm.base (b' := W.heap.size) HGP.out.size)
      have HG4 := hid (HGP.out.trans hg4)
      have d00 := (HB0.out.gr HG4.out).c 0 rfl
      have e00 := (HB0.out.gr HG4.out).free 0
      have d01 := (HB0.out.gr HG4.out).c 1 rfl
      have e01 := (HB0.out.gr HG4.out).free 1
      have d02 := (HB0.out.gr HG4.out).c 2 rfl
      have e02 := (HB0.out.gr HG4.out).free 2
      have f0 := (HB0.out.gr HG4.out).lt
      clear hm hg4 hbb
      go_wp2
      refine ratio_end rfl rfl rfl (HB0.out.gr HG4.out) ?_
      intro V hV
      have l0 := HB0.out.lt
      have a1 := HZR.out _ _ (HV4.out.exb hV l0)
      have a3 := (HG.out.trans HG4.out).ex hV (by omega)
      have a4 := a1.base (b' := w.heap.size) (by omega)
      exact ⟨_, rfl, a4, a3⟩
  · obtain ⟨g, hg⟩ : ∃ g, g = Nat.gcd n k := ⟨_, rfl⟩
    have hgp : 0 < g := by rw [hg]; exact Nat.gcd_pos_of_pos_right _ (by omega)
    have hnum : sgnd neg (n / g) = q.num := by rw [hq, hx, mkRat_num neg n k hk, hg]
    have hden : k / g = q.den := by rw [hq, hx, mkRat_den neg n k hk, hg]
    rw [← hg] at HGC
    have hbits : ((bitsN k : Int) ≠ 0 ∧ (bitsN n : Int) ≠ 0) := ⟨by have := bitsN_pos hk; omega, by have := bitsN_pos hn; omega⟩
    obtain ⟨bk, hbk⟩ : ∃ b : Int, b = bitsN k := ⟨_, rfl⟩
    obtain ⟨bn, hbn⟩ : ∃ b : Int, b = bitsN n := ⟨_, rfl⟩
    rw [← hbk, ← hbn] at hbits
    rw [← hbk] at HBD
    rw [← hbn] at HBN
    have HDM1 : Hid (∀ (V : World) (v : Value), AN V m n L → AN V v g L → Calls Try.prog 77 #[m, v] V (RetVB V true fun u v w' => VN w' V.heap.size u (n / g) L ∧ VN w' V.heap.size v (n % g) L)) := fun V v a b => divMod_c V m v n g L a b (by omega) hgp
    have HDM2 : Hid (∀ (V : World) (v : Value), AN V v2 k L → AN V v g L → Calls Try.prog 77 #[v2, v] V (RetVB V true fun u v w' => VN w' V.heap.size u (k / g) L ∧ VN w' V.heap.size v (k % g) L)) := fun V v a b => divMod_c V v2 v k g L a b (by omega) hgp
    have HMK : Hid (∀ (V : World) (v : Value), AN V v (n / g) L → Calls Try.prog 63 #[.bool neg, v] V (Ret V fun v w' => VZ w' V.heap.size v (sgnd neg (n / g)) L)) := fun V v a => make_c V neg v (n / g) L a (by omega)
    have HNUM := hid hnum
    have HDEN := hid hden
    obtain ⟨zz, hzz⟩ : ∃ zz, zz = sgnd neg (n / g) := ⟨_, rfl⟩
    rw [← hzz] at HMK HNUM
    have hb1 : (bk == 0) = false := by rw [beq_eq_false_iff_ne]; exact hbits.1
    have hb2 : (bn == 0) = false := by rw [beq_eq_false_iff_ne]; exact hbits.2
    clear hzz hnum hden hq hx hk hn hbk hbn hbits hgp hg
    go_enter Try.func41, Try.ntmps41
    go_wp2_with fail
    obtain ⟨W, hW⟩ : ∃ W, W = (w.alloc (.cells #[.bool neg, m] 25)).alloc (.cells #[.bool false, .slice none 0 0, .slice none 0 0] 27) := ⟨_, rfl⟩
    obtain ⟨hg, b0, b1⟩ := al2 w #[.bool neg, m] #[.bool false, .slice none 0 0, .slice none 0 0] 25 27
    rw [← hW] at hg b0 b1 ⊢
    clear hW
    have H1 := hid (hm1.gr hg)
    have H2 := hid (h2.gr hg)
    have c00 : W.cell? ⟨w.heap.size, 0, none⟩ = some (.bool neg) := b0.c 0 rfl
    have c01 : W.cell? ⟨w.heap.size, 1, none⟩ = some (m) := b0.c 1 rfl
    have HB0 := hid b1
    have HG := hid hg
    have HS : Hid (w.heap.size < W.heap.size) := by have h := b1.lt; unfold Hid; omega
    clear hm1 h2 hg b0 b1
    refine (HGC.out W H1.out H2.out).mono ?_
    rintro e w1 ⟨g, rfl, hgc, hg1⟩
    have HV1 := hid hgc
    have HG1 := hid hg1
    have d01 := Gr.cell HG1.out c01
    clear hgc hg1
    go_wp2_with fail
    refine (HBD.out w1 (H2.out.gr HG1.out)).mono ?_
    rintro e w2 ⟨rfl, hg2⟩
    have HG2 := hid (HG1.out.trans hg2)
    have HV2 := hid (HV1.out.gr hg2)
    have d01 := Gr.cell HG2.out c01
    clear hg2
    go_wp2_with fail
    refine (HBN.out w2 (H1.out.gr HG2.out)).mono ?_
    rintro e w3 ⟨rfl, hg3⟩
    have HG3 := hid (HG2.out.trans hg3)
    have HV3 := hid (HV2.out.gr hg3)
    have d01 := Gr.cell HG3.out c01
    clear hg3
    go_wp2_with fail
    refine (HDM1.out w3 _ (H1.out.gr HG3.out) HV3.out.an).mono ?_
    rintro e w4 ⟨u4, r4, rfl, ⟨hu4, _⟩, hg4⟩
    have HU4 := hid hu4
    have HG4 := hid (HG3.out.trans hg4)
    have HV4 := hid (HV3.out.gr hg4)
    clear hu4 hg4
    go_wp2_with fail
    refine (HDM2.out w4 _ (H2.out.gr HG4.out) HV4.out.an).mono ?_
    rintro e w5 ⟨u5, r5, rfl, ⟨hu5, _⟩, hg5⟩
    obtain ⟨B, k', d, rfl, hu5⟩ := VN.form hu5
    have HU5 := hid hu5
    have HG5 := hid (HG4.out.trans hg5)
    have HU45 := hid (HU4.out.gr hg5)
    have d00 := Gr.cell HG5.out c00
    clear hu5 hg5
    go_wp2_with fail
    refine (HMK.out w5 _ HU45.out.an).mono ?_
    rintro e w6 ⟨v6, rfl, hm, hg6⟩
    obtain ⟨A, n', c, rfl, hm⟩ := hm.form
    have HV6 := hid (hm.base (b' := W.heap.size) HG5.out.size)
    have HU6 := hid ((HU5.out.gr hg6).base (b' := W.heap.size) HG4.out.size)
    have HG6 := hid (HG5.out.trans hg6)
    have d00 := (HB0.out.gr HG6.out).c 0 rfl
    have e00 := (HB0.out.gr HG6.out).free 0
    have d01 := (HB0.out.gr HG6.out).c 1 rfl
    have e01 := (HB0.out.gr HG6.out).free 1
    have d02 := (HB0.out.gr HG6.out).c 2 rfl
    have e02 := (HB0.out.gr HG6.out).free 2
    have f0 := (HB0.out.gr HG6.out).lt
    clear hm hg6
    go_wp2
    refine ratio_end rfl rfl rfl (HB0.out.gr HG6.out) ?_
    intro V hV
    have l0 := HB0.out.lt
    have a1 := VQ.mk (HV6.out.exb hV l0) (HU6.out.exb hV l0) HNUM.out HDEN.out
    have a3 := (HG.out.trans HG6.out).ex hV (by omega)
    have a4 := a1.base (b' := w.heap.size) (by omega)
    exact ⟨_, rfl, a4, a3⟩
end Go.Proofs.Ytkbgdiejjabdmaa
