/- The walks of the reference's zero, top, low, reduce, as rational numbers. -/
import Derived.Test.YtkbgdiejjabdmaaRgB
import Derived.Test.YtkbgdiejjabdmaaRatP
import Derived.Deep.Cut
namespace Go.Proofs.Ytkbgdiejjabdmaa
open Go.RowKit

/-- The numerator that the reference takes. -/
def tz (s : Bool) (n k : Nat) : Int := if k = 0 then 0 else sgnd s n
/-- The denominator that the reference takes. -/
def lw (k : Nat) : Nat := if k = 0 then 1 else k
theorem lw_pos (k : Nat) : 0 < lw k := by unfold lw; split <;> omega
theorem tl_q (s : Bool) (n k : Nat) : mkRat (sgnd s n) k = mkRat (tz s n k) (lw k) := by
  unfold tz lw
  by_cases h : k = 0
  · rw [if_pos h, if_pos h, h, Rat.mkRat_zero, Rat.zero_mkRat]
  · rw [if_neg h, if_neg h]

set_option maxHeartbeats 4000000 in
theorem xrzero_c (w : World) : Calls Try.prog 44 #[] w (Ret w fun v w' => VQ w' w.heap.size v 0 1) := by
  go_enter Try.func44, Try.ntmps44
  go_wp2_with fail
  obtain ⟨W, hW⟩ : ∃ W, W = w.alloc (.cells #[.bool false, .slice none 0 0, .slice none 0 0] 27) := ⟨_, rfl⟩
  obtain ⟨hg, b0⟩ := al1 w #[.bool false, .slice none 0 0, .slice none 0 0] 27
  rw [← hW] at hg b0 ⊢
  clear hW
  have HB0 := hid b0
  have HG := hid hg
  have HS : Hid (w.heap.size < W.heap.size) := by have h := b0.lt; unfold Hid; omega
  clear hg b0
  refine (xof_c W 1 (by decide) (by decide)).mono ?_
  rintro e w2 ⟨v2, rfl, hm, hg2⟩
  obtain ⟨A, l, c, rfl, hm⟩ := VN.form hm
  have HV2 : Hid (VN w2 W.heap.size (.slice A l c) 1 1) := VN.one hm (by decide)
  have HG2 := hid hg2
  have rc00 := (HB0.out.gr HG2.out).c 0 rfl
  have rf00 := (HB0.out.gr HG2.out).free 0
  have rc01 := (HB0.out.gr HG2.out).c 1 rfl
  have rf01 := (HB0.out.gr HG2.out).free 1
  have rc02 := (HB0.out.gr HG2.out).c 2 rfl
  have rf02 := (HB0.out.gr HG2.out).free 2
  have rl0 := (HB0.out.gr HG2.out).lt
  clear hm hg2
  go_wp2
  refine ratio_end rfl rfl rfl (HB0.out.gr HG2.out) ?_
  intro V hV
  have l0 := HB0.out.lt
  have a1 := HV2.out.exb hV l0
  have a3 := (HG.out.trans HG2.out).ex hV (by omega)
  exact ⟨_, rfl, VQ.zero' (a1.base (by omega)), a3⟩
theorem VZ.zero_le {w : World} {b : Nat} {v : Value} {K L : Nat} (h : VZ w b v 0 K) : VZ w b v 0 L := by
  obtain ⟨m, h1, A, c, h2, h3, _, h5⟩ := h
  exact ⟨m, h1, A, c, h2, h3, by simp [limbs_zero], h5⟩

set_option maxHeartbeats 4000000 in
theorem xtop_c (w : World) {neg : Bool} {A1 A2 : Option Addr} {l1 c1 l2 c2 n k L : Nat} (hm1 : AN w (.slice A1 l1 c1) n L) (hd1 : AN w (.slice A2 l2 c2) k L) (hL1 : 1 ≤ L) (hL : L ≤ 137438953472) :
    Calls Try.prog 51 #[.agg #[.bool neg, .slice A1 l1 c1, .slice A2 l2 c2]] w (Ret w fun v w' => VZ w' w.heap.size v (tz neg n k) L) := by
  have HBD : Hid (∀ V : World, AN V (.slice A2 l2 c2) k L → Calls Try.prog 43 #[.slice A2 l2 c2] V (Is V (.int .i64 (bitsN k)))) := fun V h => xbits_c V _ k L h (by omega)
  obtain ⟨bk, hbk⟩ : ∃ b : Int, b = bitsN k := ⟨_, rfl⟩
  rw [← hbk] at HBD
  by_cases hk : k = 0
  · have hb : bk = 0 := by rw [hbk, hk]; rfl
    subst hb
    have hz : tz neg n k = 0 := by unfold tz; rw [if_pos hk]
    have HOF : Hid (∀ V : World, Calls Try.prog 37 #[.int .i64 0] V (Ret V fun v w' => VZ w' V.heap.size v 0 L)) := fun V => (xzof_c V 0 (by decide) (by decide)).mono (fun e w' ⟨v, he, hv, hg⟩ => ⟨v, he, hv.zero_le, hg⟩)
    rw [hz]
    clear hz hbk hk
    go_enter Try.func51, Try.ntmps51
    go_wp2_with fail
    obtain ⟨W, hW⟩ : ∃ W, W = (w.alloc (.cells #[.bool neg, .slice A1 l1 c1, .slice A2 l2 c2] 27)).alloc (.cells #[.bool false, .slice none 0 0] 25) := ⟨_, rfl⟩
    obtain ⟨hg, b0, b1⟩ := al2 w #[.bool neg, .slice A1 l1 c1, .slice A2 l2 c2] #[.bool false, .slice none 0 0] 27 25
    rw [← hW] at hg b0 b1 ⊢
    clear hW
    have H1 := hid (hm1.gr hg)
    have H2 := hid (hd1.gr hg)
    have c00 : W.cell? ⟨w.heap.size, 0, none⟩ = some (.bool neg) := b0.c 0 rfl
    have c01 : W.cell? ⟨w.heap.size, 1, none⟩ = some (.slice A1 l1 c1) := b0.c 1 rfl
    have c02 : W.cell? ⟨w.heap.size, 2, none⟩ = some (.slice A2 l2 c2) := b0.c 2 rfl
    have HB0 := hid b1
    have HG := hid hg
    have HS : Hid (w.heap.size < W.heap.size) := by have h := b1.lt; unfold Hid; omega
    clear hm1 hd1 hg b0 b1
    refine (HBD.out W H2.out).mono ?_
    rintro e w1 ⟨rfl, hg1⟩
    have HG1 := hid hg1
    have d00 := Gr.cell HG1.out c00
    have d01 := Gr.cell HG1.out c01
    have d02 := Gr.cell HG1.out c02
    clear hg1 c00 c01 c02
    go_wp2_with fail
    refine (HOF.out w1).mono ?_
    rintro e w2 ⟨v2, rfl, hm, hg2⟩
    obtain ⟨A, n2, c, rfl, hm⟩ := hm.form
    obtain ⟨bb, hbb⟩ : ∃ b, b = decide ((0 : Int) < 0) := ⟨_, rfl⟩
    rw [← hbb] at hm ⊢
    have HV2 := hid (hm.base (b' := W.heap.size) HG1.out.size)
    have HG2 := hid (HG1.out.trans hg2)
    have rc00 := (HB0.out.gr HG2.out).c 0 rfl
    have rf00 := (HB0.out.gr HG2.out).free 0
    have rc01 := (HB0.out.gr HG2.out).c 1 rfl
    have rf01 := (HB0.out.gr HG2.out).free 1
    have rl0 := (HB0.out.gr HG2.out).lt
    clear hm hg2 hbb
    go_wp2
    refine int_end rfl rfl rfl (HB0.out.gr HG2.out) ?_
    intro V hV
    have l0 := HB0.out.lt
    have a1 := (HV2.out.exb hV l0).base (b' := w.heap.size) (by omega)
    have a3 := (HG.out.trans HG2.out).ex hV (by omega)
    exact ⟨_, rfl, a1, a3⟩
  · have hb : (bk == 0) = false := by rw [beq_eq_false_iff_ne, hbk]; have := bitsN_pos hk; omega
    have hz : tz neg n k = sgnd neg n := by unfold tz; rw [if_neg hk]
    obtain ⟨z, hzz⟩ : ∃ z, z = sgnd neg n := ⟨_, rfl⟩
    rw [hz, ← hzz]
    have HNM : Hid (∀ V : World, AN V (.slice A1 l1 c1) n L → Calls Try.prog 42 #[.agg #[.bool neg, .slice A1 l1 c1]] V (Ret V fun v w' => VZ w' V.heap.size v z L)) := fun V h => xznorm_c V _ z L ⟨neg, _, n, rfl, h, hzz⟩ (by omega)
    clear hz hbk hk hzz
    go_enter Try.func51, Try.ntmps51
    go_wp2_with fail
    obtain ⟨W, hW⟩ : ∃ W, W = (w.alloc (.cells #[.bool neg, .slice A1 l1 c1, .slice A2 l2 c2] 27)).alloc (.cells #[.bool false, .slice none 0 0] 25) := ⟨_, rfl⟩
    obtain ⟨hg, b0, b1⟩ := al2 w #[.bool neg, .slice A1 l1 c1, .slice A2 l2 c2] #[.bool false, .slice none 0 0] 27 25
    rw [← hW] at hg b0 b1 ⊢
    clear hW
    have H1 := hid (hm1.gr hg)
    have H2 := hid (hd1.gr hg)
    have c00 : W.cell? ⟨w.heap.size, 0, none⟩ = some (.bool neg) := b0.c 0 rfl
    have c01 : W.cell? ⟨w.heap.size, 1, none⟩ = some (.slice A1 l1 c1) := b0.c 1 rfl
    have c02 : W.cell? ⟨w.heap.size, 2, none⟩ = some (.slice A2 l2 c2) := b0.c 2 rfl
    have HB0 := hid b1
    have HG := hid hg
    have HS : Hid (w.heap.size < W.heap.size) := by have h := b1.lt; unfold Hid; omega
    clear hm1 hd1 hg b0 b1
    refine (HBD.out W H2.out).mono ?_
    rintro e w1 ⟨rfl, hg1⟩
    have HG1 := hid hg1
    have d00 := Gr.cell HG1.out c00
    have d01 := Gr.cell HG1.out c01
    have d02 := Gr.cell HG1.out c02
    clear hg1 c00 c01 c02
    go_wp2_with fail
    refine (HNM.out w1 (H1.out.gr HG1.out)).mono ?_
    rintro e w2 ⟨v2, rfl, hm, hg2⟩
    obtain ⟨A, n2, c, rfl, hm⟩ := hm.form
    obtain ⟨bb, hbb⟩ : ∃ b, b = decide (z < 0) := ⟨_, rfl⟩
    rw [← hbb] at hm ⊢
    have HV2 := hid (hm.base (b' := W.heap.size) HG1.out.size)
    have HG2 := hid (HG1.out.trans hg2)
    have rc00 := (HB0.out.gr HG2.out).c 0 rfl
    have rf00 := (HB0.out.gr HG2.out).free 0
    have rc01 := (HB0.out.gr HG2.out).c 1 rfl
    have rf01 := (HB0.out.gr HG2.out).free 1
    have rl0 := (HB0.out.gr HG2.out).lt
    clear hm hg2 hbb
    go_wp2
    refine int_end rfl rfl rfl (HB0.out.gr HG2.out) ?_
    intro V hV
    have l0 := HB0.out.lt
    have a1 := (HV2.out.exb hV l0).base (b' := w.heap.size) (by omega)
    have a3 := (HG.out.trans HG2.out).ex hV (by omega)
    exact ⟨_, rfl, a1, a3⟩

set_option maxHeartbeats 4000000 in
theorem xlow_c (w : World) {neg : Bool} {A1 A2 : Option Addr} {l1 c1 l2 c2 k L : Nat} (hd1 : AN w (.slice A2 l2 c2) k L) (hL1 : 1 ≤ L) (hL : L ≤ 137438953472) :
    Calls Try.prog 53 #[.agg #[.bool neg, .slice A1 l1 c1, .slice A2 l2 c2]] w (Ret w fun v w' => VN w' w.heap.size v (lw k) L) := by
  have HBD : Hid (∀ V : World, AN V (.slice A2 l2 c2) k L → Calls Try.prog 43 #[.slice A2 l2 c2] V (Is V (.int .i64 (bitsN k)))) := fun V h => xbits_c V _ k L h (by omega)
  obtain ⟨bk, hbk⟩ : ∃ b : Int, b = bitsN k := ⟨_, rfl⟩
  rw [← hbk] at HBD
  have hg := Gr.alloc w (.cells #[.bool neg, .slice A1 l1 c1, .slice A2 l2 c2] 27)
  have HG := hid hg
  have H2 := hid (hd1.gr hg)
  clear hg
  by_cases hk : k = 0
  · have hb : bk = 0 := by rw [hbk, hk]; rfl
    subst hb
    have hz : lw k = 1 := by unfold lw; rw [if_pos hk]
    rw [hz]
    clear hz hbk hk
    go_enter Try.func53, Try.ntmps53
    go_wp2_with fail
    refine (HBD.out _ H2.out).mono ?_
    rintro e w1 ⟨rfl, hg1⟩
    have HG1 := hid (HG.out.trans hg1)
    clear hg1
    go_wp2_with fail
    refine (xof_c w1 1 (by decide) (by decide)).mono ?_
    rintro e w2 ⟨v2, rfl, hv, hg2⟩
    have HV := hid ((VN.one hv hL1).base (b' := w.heap.size) HG1.out.size)
    have HG2 := hid (HG1.out.trans hg2)
    clear hv hg2
    go_wp2
    go_ret
    exact ⟨_, rfl, HV.out, HG2.out⟩
  · have hb : (bk == 0) = false := by rw [beq_eq_false_iff_ne, hbk]; have := bitsN_pos hk; omega
    have hz : lw k = k := by unfold lw; rw [if_neg hk]
    rw [hz]
    clear hz hbk hk
    go_enter Try.func53, Try.ntmps53
    go_wp2_with fail
    refine (HBD.out _ H2.out).mono ?_
    rintro e w1 ⟨rfl, hg1⟩
    have HN := hid (H2.out.gr hg1)
    have d0 := ((Blk.new w #[.bool neg, .slice A1 l1 c1, .slice A2 l2 c2] 27).gr hg1).c 2 rfl
    have HG1 := hid (HG.out.trans hg1)
    clear hg1
    go_wp2_with fail
    refine (xnorm_c w1 _ k L HN.out (by omega)).mono ?_
    rintro e w2 ⟨v2, rfl, hv, hg2⟩
    have HV := hid (hv.base (b' := w.heap.size) HG1.out.size)
    have HG2 := hid (HG1.out.trans hg2)
    clear hv hg2
    go_wp2
    go_ret
    exact ⟨_, rfl, HV.out, HG2.out⟩

/-- What the reference takes of a ratio: a numerator and a denominator above 0. -/
theorem xtl (w : World) (v : Value) (q : Rat) (L : Nat) (h : AQ w v q L) (hL1 : 1 ≤ L) (hL : L ≤ 137438953472) : ∃ neg A1 l1 c1 A2 l2 c2 z k, v = .agg #[.bool neg, .slice A1 l1 c1, .slice A2 l2 c2] ∧ 0 < k ∧ q = mkRat z k ∧
    Hid (∀ V : World, Gr w V → Calls Try.prog 51 #[.agg #[.bool neg, .slice A1 l1 c1, .slice A2 l2 c2]] V (Ret V fun v w' => VZ w' V.heap.size v z L)) ∧
    Hid (∀ V : World, Gr w V → Calls Try.prog 53 #[.agg #[.bool neg, .slice A1 l1 c1, .slice A2 l2 c2]] V (Ret V fun v w' => VN w' V.heap.size v k L)) := by
  obtain ⟨neg, m, d, n, k, rfl, hm, hd, hq⟩ := h
  obtain ⟨A1, l1, c1, rfl, hm⟩ := hm.form
  obtain ⟨A2, l2, c2, rfl, hd⟩ := hd.form
  exact ⟨neg, A1, l1, c1, A2, l2, c2, tz neg n k, lw k, rfl, lw_pos k, by rw [← tl_q]; exact hq, fun V hV => xtop_c V (hm.gr hV) (hd.gr hV) hL1 hL, fun V hV => xlow_c V (hd.gr hV) hL1 hL⟩

theorem sgnd_self (z : Int) : sgnd (decide (z < 0)) z.natAbs = z := by
  unfold sgnd
  by_cases h : z < 0
  · simp [h]; omega
  · simp [h]; omega
set_option maxHeartbeats 4000000 in
theorem xreduce_c (w : World) (v1 v2 : Value) (z : Int) (k L : Nat) (h1 : AZ w v1 z L) (h2 : AN w v2 k L) (hk : 0 < k) (hL1 : 1 ≤ L) (hL : L ≤ 137438953472) :
    Calls Try.prog 46 #[v1, v2] w (Ret w fun v w' => VQ w' w.heap.size v (mkRat z k) L) := by
  have HA := hid h1
  obtain ⟨neg, m, n0, rfl, hm1, hx⟩ := h1
  clear hm1 hx n0
  obtain ⟨q, hq⟩ : ∃ q, q = mkRat z k := ⟨_, rfl⟩
  rw [← hq]
  obtain ⟨s, hs⟩ : ∃ s, s = decide (z < 0) := ⟨_, rfl⟩
  obtain ⟨n, hn⟩ : ∃ n, n = z.natAbs := ⟨_, rfl⟩
  have hz : z = sgnd s n := by rw [hs, hn, sgnd_self]
  by_cases hn0 : n = 0
  · have hq0 : q = 0 := by rw [hq, hz, hn0, sgnd_zero, Rat.zero_mkRat]
    have HQ0 := hid hq0
    have HBN : Hid (∀ (V : World) (m : Value), AN V m n L → Calls Try.prog 43 #[m] V (Is V (.int .i64 0))) := fun V m h => by
      have h := xbits_c V m n L h (by omega)
      rwa [hn0] at h
    have HN := hid hn
    clear hq hq0 hz hn0 hn
    go_enter Try.func46, Try.ntmps46
    go_wp2_with fail
    obtain ⟨W, hW⟩ : ∃ W, W = (w.alloc (.cells #[.bool neg, m] 25)).alloc (.cells #[.bool false, .slice none 0 0, .slice none 0 0] 27) := ⟨_, rfl⟩
    obtain ⟨hg, b0, b1⟩ := al2 w #[.bool neg, m] #[.bool false, .slice none 0 0, .slice none 0 0] 25 27
    rw [← hW] at hg b0 b1 ⊢
    clear hW
    have H2 := hid (h2.gr hg)
    have c00 : W.cell? ⟨w.heap.size, 0, none⟩ = some (.bool neg) := b0.c 0 rfl
    have c01 : W.cell? ⟨w.heap.size, 1, none⟩ = some (m) := b0.c 1 rfl
    have HB0 := hid b1
    have HG := hid hg
    have HS : Hid (w.heap.size < W.heap.size) := by have h := b1.lt; unfold Hid; omega
    clear h2 hg b0 b1
    refine (xznorm_c W _ z L (HA.out.gr HG.out) (by omega)).mono ?_
    rintro e w1 ⟨v, rfl, hv, hg1⟩
    obtain ⟨Az, nz, cz, rfl, hv⟩ := hv.form
    rw [← hs] at hv ⊢
    clear hs
    have hvn : VN w1 W.heap.size (.slice Az nz cz) n L := by
      obtain ⟨mm, hme, hm⟩ := hv
      rw [← HN.out] at hm
      injection hme with hme
      have e2 : (.slice Az nz cz : Value) = mm := by have := congrArg (·[1]?) hme; simpa using this
      rw [e2]
      exact hm
    obtain ⟨W1, hW1⟩ : ∃ V, V = w1.alloc (.cells #[.bool s, .slice Az nz cz] 25) := ⟨_, rfl⟩
    go_upto_region 2 with (fail)
    obtain ⟨hgl, bl⟩ := al1 w1 #[.bool s, .slice Az nz cz] 25
    rw [← hW1] at hgl bl ⊢
    clear hW1
    have HVN := hid (hvn.gr hgl)
    have HG1 := hid (hg1.trans hgl)
    have e0 : W1.cell? ⟨w1.heap.size, 0, none⟩ = some (.bool s) := bl.c 0 rfl
    have e1 : W1.cell? ⟨w1.heap.size, 1, none⟩ = some (.slice Az nz cz) := bl.c 1 rfl
    clear hv hvn hg1 hgl bl c00 c01
    go_wp2_with fail
    refine (HBN.out W1 _ HVN.out.an).mono ?_
    rintro e w2 ⟨rfl, hg2⟩
    have HG2 := hid (HG1.out.trans hg2)
    have HV2 := hid (HVN.out.gr hg2)
    have f0 := Gr.cell hg2 e0
    have f1 := Gr.cell hg2 e1
    clear hg2 e0 e1
    go_wp2_with fail
    refine (xrzero_c w2).mono ?_
    rintro e w4 ⟨v4, rfl, hm, hg4⟩
    obtain ⟨A, n', c, B, k', d, rfl, hm⟩ := hm.form
    obtain ⟨bb, hbb⟩ : ∃ b, b = decide ((0 : Rat).num < 0) := ⟨_, rfl⟩
    rw [← hbb] at hm ⊢
    have HV4 := hid (hm.base (b' := W.heap.size) HG2.out.size)
    have HG4 := hid (HG2.out.trans hg4)
    have rc00 := (HB0.out.gr HG4.out).c 0 rfl
    have rf00 := (HB0.out.gr HG4.out).free 0
    have rc01 := (HB0.out.gr HG4.out).c 1 rfl
    have rf01 := (HB0.out.gr HG4.out).free 1
    have rc02 := (HB0.out.gr HG4.out).c 2 rfl
    have rf02 := (HB0.out.gr HG4.out).free 2
    have rl0 := (HB0.out.gr HG4.out).lt
    clear hm hg4 hbb
    go_wp2
    refine ratio_end rfl rfl rfl (HB0.out.gr HG4.out) ?_
    intro V hV
    have l0 := HB0.out.lt
    have a1 := (HV4.out.exb hV l0).le hL1
    have a3 := (HG.out.trans HG4.out).ex hV (by omega)
    have a4 := a1.base (b' := w.heap.size) (by omega)
    rw [HQ0.out]
    exact ⟨_, rfl, a4, a3⟩
  · obtain ⟨g, hg⟩ : ∃ g, g = Nat.gcd n k := ⟨_, rfl⟩
    have hgp : 0 < g := by rw [hg]; exact Nat.gcd_pos_of_pos_right _ (by omega)
    have hnum : sgnd s (n / g) = q.num := by rw [hq, hz, mkRat_num s n k (by omega), hg]
    have hden : k / g = q.den := by rw [hq, hz, mkRat_den s n k (by omega), hg]
    obtain ⟨bn, hbn⟩ : ∃ b : Int, b = bitsN n := ⟨_, rfl⟩
    have HBN : Hid (∀ (V : World) (m : Value), AN V m n L → Calls Try.prog 43 #[m] V (Is V (.int .i64 bn))) := fun V m h => by
      have h := xbits_c V m n L h (by omega)
      rwa [← hbn] at h
    have hb : (bn == 0) = false := by rw [beq_eq_false_iff_ne, hbn]; have := bitsN_pos hn0; omega
    have HGC : Hid (∀ (V : World) (m : Value), AN V m n L → AN V v2 k L → Calls Try.prog 79 #[m, v2] V (Ret V fun v w' => VN w' V.heap.size v g L)) := fun V m a b => by
      have h := xgcd_c V m v2 n k L a b (by omega)
      rwa [← hg] at h
    have HDM1 : Hid (∀ (V : World) (m v : Value), AN V m n L → AN V v g L → Calls Try.prog 80 #[m, v] V (RetVB V true fun u v w' => VN w' V.heap.size u (n / g) L ∧ VN w' V.heap.size v (n % g) L)) := fun V m v a b => xdivmod_c V m v n g L a b (by omega) hgp
    have HDM2 : Hid (∀ (V : World) (v : Value), AN V v2 k L → AN V v g L → Calls Try.prog 80 #[v2, v] V (RetVB V true fun u v w' => VN w' V.heap.size u (k / g) L ∧ VN w' V.heap.size v (k % g) L)) := fun V v a b => xdivmod_c V v2 v k g L a b (by omega) hgp
    have HMK : Hid (∀ (V : World) (v : Value), AN V v (n / g) L → Calls Try.prog 52 #[.bool s, v] V (Ret V fun v w' => VZ w' V.heap.size v (sgnd s (n / g)) L)) := fun V v a => xzmake_c V s v (n / g) L a (by omega)
    have HNUM := hid hnum
    have HDEN := hid hden
    obtain ⟨zz, hzz⟩ : ∃ zz, zz = sgnd s (n / g) := ⟨_, rfl⟩
    rw [← hzz] at HMK HNUM
    have HN := hid hn
    clear hzz hnum hden hq hk hn0 hbn hgp hg hz hn
    go_enter Try.func46, Try.ntmps46
    go_wp2_with fail
    obtain ⟨W, hW⟩ : ∃ W, W = (w.alloc (.cells #[.bool neg, m] 25)).alloc (.cells #[.bool false, .slice none 0 0, .slice none 0 0] 27) := ⟨_, rfl⟩
    obtain ⟨hg, b0, b1⟩ := al2 w #[.bool neg, m] #[.bool false, .slice none 0 0, .slice none 0 0] 25 27
    rw [← hW] at hg b0 b1 ⊢
    clear hW
    have H2 := hid (h2.gr hg)
    have c00 : W.cell? ⟨w.heap.size, 0, none⟩ = some (.bool neg) := b0.c 0 rfl
    have c01 : W.cell? ⟨w.heap.size, 1, none⟩ = some (m) := b0.c 1 rfl
    have HB0 := hid b1
    have HG := hid hg
    have HS : Hid (w.heap.size < W.heap.size) := by have h := b1.lt; unfold Hid; omega
    clear h2 hg b0 b1
    refine (xznorm_c W _ z L (HA.out.gr HG.out) (by omega)).mono ?_
    rintro e w1 ⟨v, rfl, hv, hg1⟩
    obtain ⟨Az, nz, cz, rfl, hv⟩ := hv.form
    rw [← hs] at hv ⊢
    clear hs
    have hvn : VN w1 W.heap.size (.slice Az nz cz) n L := by
      obtain ⟨mm, hme, hm⟩ := hv
      rw [← HN.out] at hm
      injection hme with hme
      have e2 : (.slice Az nz cz : Value) = mm := by have := congrArg (·[1]?) hme; simpa using this
      rw [e2]
      exact hm
    obtain ⟨W1, hW1⟩ : ∃ V, V = w1.alloc (.cells #[.bool s, .slice Az nz cz] 25) := ⟨_, rfl⟩
    go_upto_region 2 with (fail)
    obtain ⟨hgl, bl⟩ := al1 w1 #[.bool s, .slice Az nz cz] 25
    rw [← hW1] at hgl bl ⊢
    clear hW1
    have HVN := hid (hvn.gr hgl)
    have HG1 := hid (hg1.trans hgl)
    have e0 : W1.cell? ⟨w1.heap.size, 0, none⟩ = some (.bool s) := bl.c 0 rfl
    have e1 : W1.cell? ⟨w1.heap.size, 1, none⟩ = some (.slice Az nz cz) := bl.c 1 rfl
    clear hv hvn hg1 hgl bl c00 c01
    go_wp2_with fail
    refine (HBN.out W1 _ HVN.out.an).mono ?_
    rintro e w2 ⟨rfl, hg2⟩
    have HG2 := hid (HG1.out.trans hg2)
    have HV2 := hid (HVN.out.gr hg2)
    have f0 := Gr.cell hg2 e0
    have f1 := Gr.cell hg2 e1
    clear hg2 e0 e1
    go_wp2_with fail
    refine (HGC.out w2 _ HV2.out.an (H2.out.gr HG2.out)).mono ?_
    rintro e w3 ⟨g3, rfl, hgc, hg3⟩
    have HG3 := hid (HG2.out.trans hg3)
    have HV3 := hid (HV2.out.gr hg3)
    have HC3 := hid hgc
    have i0 := Gr.cell hg3 f0
    have i1 := Gr.cell hg3 f1
    clear hgc hg3 f0 f1
    go_wp2_with fail
    refine (HDM1.out w3 _ _ HV3.out.an HC3.out.an).mono ?_
    rintro e w4 ⟨u4, r4, rfl, ⟨hu4, _⟩, hg4⟩
    have HU4 := hid hu4
    have HG4 := hid (HG3.out.trans hg4)
    have HC4 := hid (HC3.out.gr hg4)
    have j0 := Gr.cell hg4 i0
    clear hu4 hg4 i0 i1
    go_wp2_with fail
    refine (HDM2.out w4 _ (H2.out.gr HG4.out) HC4.out.an).mono ?_
    rintro e w5 ⟨u5, r5, rfl, ⟨hu5, _⟩, hg5⟩
    obtain ⟨B, k', d, rfl, hu5⟩ := VN.form hu5
    have HU5 := hid hu5
    have HG5 := hid (HG4.out.trans hg5)
    have HU45 := hid (HU4.out.gr hg5)
    have d00 := Gr.cell hg5 j0
    clear hu5 hg5 j0
    go_wp2_with fail
    refine (HMK.out w5 _ HU45.out.an).mono ?_
    rintro e w6 ⟨v6, rfl, hm, hg6⟩
    obtain ⟨A, n', c, rfl, hm⟩ := hm.form
    have HV6 := hid (hm.base (b' := W.heap.size) HG5.out.size)
    have HU6 := hid ((HU5.out.gr hg6).base (b' := W.heap.size) HG4.out.size)
    have HG6 := hid (HG5.out.trans hg6)
    have rc00 := (HB0.out.gr HG6.out).c 0 rfl
    have rf00 := (HB0.out.gr HG6.out).free 0
    have rc01 := (HB0.out.gr HG6.out).c 1 rfl
    have rf01 := (HB0.out.gr HG6.out).free 1
    have rc02 := (HB0.out.gr HG6.out).c 2 rfl
    have rf02 := (HB0.out.gr HG6.out).free 2
    have rl0 := (HB0.out.gr HG6.out).lt
    clear hm hg6
    go_wp2
    refine ratio_end rfl rfl rfl (HB0.out.gr HG6.out) ?_
    intro V hV
    have l0 := HB0.out.lt
    have a1 := VQ.mk (HV6.out.exb hV l0) (HU6.out.exb hV l0) HNUM.out HDEN.out
    have a3 := (HG.out.trans HG6.out).ex hV (by omega)
    have a4 := a1.base (b' := w.heap.size) (by omega)
    exact ⟨_, rfl, a4, a3⟩
end Go.Proofs.Ytkbgdiejjabdmaa
