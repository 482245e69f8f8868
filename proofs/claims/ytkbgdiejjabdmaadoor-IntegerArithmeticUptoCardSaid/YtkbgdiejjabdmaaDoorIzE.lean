/- The walk of the reference's integer DivMod: at no divisor, at each pair of signs, whole. -/
import Derived.Test.YtkbgdiejjabdmaaDoorRgC
import Derived.Test.YtkbgdiejjabdmaaDoorRfE
import Derived.Test.YtkbgdiejjabdmaaDoorDmZ
import Derived.Deep.Cut
import Derived.Deep.RegionHeld3
namespace Go.Proofs.YtkbgdiejjabdmaaDoor
open Go.RowKit

theorem VZ.magd {w : World} {b : Nat} {x m : Value} {z : Int} {L : Nat} (h : VZ w b (.agg #[x, m]) z L) : VN w b m z.natAbs L := by
  obtain ⟨m', he, h3⟩ := h
  injection he with he
  have e2 : m = m' := by have := congrArg (·[1]?) he; simpa using this
  subst e2
  exact h3
theorem fdivZ {x y : Int} (hy : y ≠ 0) :
    (decide (x < 0) = decide (y < 0) → x.fdiv y = (x.natAbs / y.natAbs : Nat)) ∧
    (decide (x < 0) ≠ decide (y < 0) → x.natAbs % y.natAbs = 0 → x.fdiv y = -((x.natAbs / y.natAbs : Nat) : Int)) ∧
    (decide (x < 0) ≠ decide (y < 0) → x.natAbs % y.natAbs ≠ 0 → x.fdiv y = -((x.natAbs / y.natAbs : Nat) : Int) - 1) := by
  have hn : 0 < y.natAbs := by omega
  have hdm := Nat.div_add_mod x.natAbs y.natAbs
  have hr := Nat.mod_lt x.natAbs hn
  obtain ⟨n, hne⟩ : ∃ n, n = y.natAbs := ⟨_, rfl⟩
  obtain ⟨a, hae⟩ : ∃ a, a = x.natAbs := ⟨_, rfl⟩
  rw [← hne, ← hae] at hdm hr
  rw [← hne] at hn
  rw [← hne, ← hae]
  obtain ⟨q, hq⟩ : ∃ q, q = a / n := ⟨_, rfl⟩
  obtain ⟨r, hre⟩ : ∃ r, r = a % n := ⟨_, rfl⟩
  rw [← hq, ← hre] at hdm
  rw [← hre] at hr
  rw [← hq, ← hre]
  have hdz : (n : Int) * (q : Int) + (r : Int) = (a : Int) := by rw [← hdm]; simp
  have e1 : (n : Int) * (-(q : Int) - 1) = -((n : Int) * (q : Int)) - n := by rw [Int.mul_sub, Int.mul_neg, Int.mul_one]
  have e2 : (n : Int) * (-(q : Int)) = -((n : Int) * (q : Int)) := Int.mul_neg _ _
  by_cases hy0 : y < 0
  · have hyn : y = -(n : Int) := by omega
    by_cases hx0 : x < 0
    · rw [decide_eq_true hx0, decide_eq_true hy0]
      refine ⟨fun _ => ?_, fun h => absurd rfl h, fun h => absurd rfl h⟩
      rw [hyn]; exact (fd_neg x n q r hn (by omega) (by omega) (by omega)).1
    · rw [decide_eq_false hx0, decide_eq_true hy0]
      refine ⟨fun h => (by cases h), fun _ h => ?_, fun _ h => ?_⟩
      · rw [hyn]; exact (fd_neg x n (-(q : Int)) 0 hn (by omega) (by omega) (by omega)).1
      · rw [hyn]; exact (fd_neg x n (-(q : Int) - 1) (n - r) hn (by omega) (by omega) (by omega)).1
  · have hyn : y = (n : Int) := by omega
    by_cases hx0 : x < 0
    · rw [decide_eq_true hx0, decide_eq_false hy0]
      refine ⟨fun h => (by cases h), fun _ h => ?_, fun _ h => ?_⟩
      · rw [hyn]; exact (fd_pos x n (-(q : Int)) 0 hn (by omega) (by omega) (by omega)).1
      · rw [hyn]; exact (fd_pos x n (-(q : Int) - 1) (n - r) hn (by omega) (by omega) (by omega)).1
    · rw [decide_eq_false hx0, decide_eq_false hy0]
      refine ⟨fun _ => ?_, fun h => absurd rfl h, fun h => absurd rfl h⟩
      rw [hyn]; exact (fd_pos x n q r hn (by omega) (by omega) (by omega)).1

set_option maxHeartbeats 8000000 in
theorem xzdivmod_c0 (w : World) (v1 v2 : Value) (x y : Int) (L : Nat) (h1 : AZ w v1 x L) (h2 : AZ w v2 y L) (hL : L ≤ 34359738368) (h0 : y = 0) :
    Calls Tryd.prog 77 #[v1, v2] w (RetVB w false fun u v _ => u = .agg #[.bool false, .slice none 0 0] ∧ v = .agg #[.bool false, .slice none 0 0]) := by
  have HX := hid h1
  have HY := hid h2
  obtain ⟨neg1, m1, n1, rfl, hm1, hx⟩ := h1
  obtain ⟨neg2, m2, n2, rfl, hm2, hy⟩ := h2
  clear hm1 hx n1 hm2 hy n2
  have HNX : Hid (∀ V : World, Gr w V → Calls Tryd.prog 65 #[.agg #[.bool neg1, m1]] V (Ret V fun v w' => VZ w' V.heap.size v x L)) := fun V hV => xznorm_c V _ x L (HX.out.gr hV) (by omega)
  have HNY : Hid (∀ V : World, Gr w V → Calls Tryd.prog 65 #[.agg #[.bool neg2, m2]] V (Ret V fun v w' => VZ w' V.heap.size v y L)) := fun V hV => xznorm_c V _ y L (HY.out.gr hV) (by omega)
  have HL := hid hL
  have H0 := hid h0
  clear hL h0
  go_enter Tryd.func77, Tryd.ntmps77
  go_upto_region 1 with (fail)
  obtain ⟨W, hW⟩ : ∃ W, W = (((w.alloc (.cells #[.bool neg1, m1] 51)).alloc (.cells #[.bool neg2, m2] 51)).alloc (.cells #[.bool false, .slice none 0 0] 51)).alloc (.cells #[.bool false, .slice none 0 0] 51) := ⟨_, rfl⟩
  obtain ⟨hg, b0, b1, b2, b3⟩ := al4 w #[.bool neg1, m1] #[.bool neg2, m2] #[.bool false, .slice none 0 0] #[.bool false, .slice none 0 0] 51 51 51 51
  rw [← hW] at hg b0 b1 b2 b3 ⊢
  clear hW
  have c00 : W.cell? ⟨w.heap.size, 0, none⟩ = some (.bool neg1) := b0.c 0 rfl
  have c01 : W.cell? ⟨w.heap.size, 1, none⟩ = some m1 := b0.c 1 rfl
  have c10 : W.cell? ⟨w.heap.size + 1, 0, none⟩ = some (.bool neg2) := b1.c 0 rfl
  have c11 : W.cell? ⟨w.heap.size + 1, 1, none⟩ = some m2 := b1.c 1 rfl
  have HB0 := hid b2
  have HB1 := hid b3
  have HG := hid hg
  have HS : Hid (w.heap.size + 1 + 1 + 1 < W.heap.size) := b3.lt
  clear hg b0 b1 b2 b3
  go_wp2_with fail
  refine (HNX.out W HG.out).mono ?_
  rintro e w1 ⟨v, rfl, hv, hg1⟩
  obtain ⟨A1, l1, d1, rfl, hv⟩ := hv.form
  obtain ⟨s1, hs⟩ : ∃ b, b = decide (x < 0) := ⟨_, rfl⟩
  rw [← hs] at hv ⊢
  have HS1 := hid hs
  clear hs
  obtain ⟨W1, hW⟩ : ∃ V, V = w1.alloc (.cells #[.bool s1, .slice A1 l1 d1] 51) := ⟨_, rfl⟩
  go_upto_region 2 with (fail)
  obtain ⟨hgl, bl⟩ := al1 w1 #[.bool s1, .slice A1 l1 d1] 51
  rw [← hW] at hgl bl ⊢
  clear hW
  have HX1 := hid (hv.gr hgl)
  have HG1 := hid (hg1.trans hgl)
  have e0 : W1.cell? ⟨w1.heap.size, 0, none⟩ = some (.bool s1) := bl.c 0 rfl
  have e1 : W1.cell? ⟨w1.heap.size, 1, none⟩ = some (.slice A1 l1 d1) := bl.c 1 rfl
  have c10 := Gr.cell HG1.out c10
  have c11 := Gr.cell HG1.out c11
  have HL1 : Hid (W.heap.size ≤ w1.heap.size) := hg1.size
  have HLB1 := hid bl.lt
  clear hv hg1 hgl bl c00 c01
  go_wp2_with fail
  refine (HNY.out W1 (HG.out.trans HG1.out)).mono ?_
  rintro e w2 ⟨v, rfl, hv, hg2⟩
  obtain ⟨A2, l2, d2, rfl, hv⟩ := hv.form
  obtain ⟨s2, hs⟩ : ∃ b, b = decide (y < 0) := ⟨_, rfl⟩
  rw [← hs] at hv ⊢
  have HS2 := hid hs
  clear hs
  obtain ⟨W2, hW⟩ : ∃ V, V = w2.alloc (.cells #[.bool s2, .slice A2 l2 d2] 51) := ⟨_, rfl⟩
  go_upto_region 3 with (fail)
  obtain ⟨hgl, bl⟩ := al1 w2 #[.bool s2, .slice A2 l2 d2] 51
  rw [← hW] at hgl bl ⊢
  clear hW
  have HX2 := hid (HX1.out.gr (hg2.trans hgl))
  have HY2 := hid (hv.gr hgl)
  have HG2 := hid (HG1.out.trans (hg2.trans hgl))
  have f0 : W2.cell? ⟨w2.heap.size, 0, none⟩ = some (.bool s2) := bl.c 0 rfl
  have f1 : W2.cell? ⟨w2.heap.size, 1, none⟩ = some (.slice A2 l2 d2) := bl.c 1 rfl
  have e0 := Gr.cell (hg2.trans hgl) e0
  have e1 := Gr.cell (hg2.trans hgl) e1
  have HL2 : Hid (w1.heap.size < w2.heap.size) := Nat.lt_of_lt_of_le HLB1.out hg2.size
  have HLB2 := hid bl.lt
  have HE0 := hid e0
  have HE1 := hid e1
  have HF0 := hid f0
  have HF1 := hid f1
  clear hv hg2 hgl bl c10 c11
  go_wp2_with fail
  refine (xdivmod_c0 W2 _ _ x.natAbs y.natAbs L HX2.out.magd.an HY2.out.magd.an (by have := HL.out; omega) (by rw [H0.out]; rfl)).mono ?_
  rintro e w3 ⟨rfl, hg3⟩
  have HG3 := hid (HG2.out.trans hg3)
  clear hg3 e0 e1 f0 f1
  have rc00 : w3.cell? ⟨w.heap.size + 1 + 1, 0, none⟩ = some (.bool false) := (HB0.out.gr HG3.out).c 0 rfl
  have rf00 : w3.frozen? ⟨w.heap.size + 1 + 1, 0, none⟩ = false := (HB0.out.gr HG3.out).free 0
  have rc01 : w3.cell? ⟨w.heap.size + 1 + 1, 1, none⟩ = some (.slice none 0 0) := (HB0.out.gr HG3.out).c 1 rfl
  have rf01 : w3.frozen? ⟨w.heap.size + 1 + 1, 1, none⟩ = false := (HB0.out.gr HG3.out).free 1
  have rl0 : w.heap.size + 1 + 1 < w3.heap.size := (HB0.out.gr HG3.out).lt
  have rc10 : w3.cell? ⟨w.heap.size + 1 + 1 + 1, 0, none⟩ = some (.bool false) := (HB1.out.gr HG3.out).c 0 rfl
  have rf10 : w3.frozen? ⟨w.heap.size + 1 + 1 + 1, 0, none⟩ = false := (HB1.out.gr HG3.out).free 0
  have rc11 : w3.cell? ⟨w.heap.size + 1 + 1 + 1, 1, none⟩ = some (.slice none 0 0) := (HB1.out.gr HG3.out).c 1 rfl
  have rf11 : w3.frozen? ⟨w.heap.size + 1 + 1 + 1, 1, none⟩ = false := (HB1.out.gr HG3.out).free 1
  have rl1 : w.heap.size + 1 + 1 + 1 < w3.heap.size := (HB1.out.gr HG3.out).lt
  go_wp2
  refine int2_end_b rfl rfl rfl rfl (HB0.out.gr HG3.out) (HB1.out.gr HG3.out) (by omega) ?_
  intro V1 V hV1 hV
  exact ⟨_, _, rfl, ⟨rfl, rfl⟩, ((HG.out.trans HG3.out).ex hV1 (by omega)).ex hV (by omega)⟩

set_option maxRecDepth 100000 in
set_option maxHeartbeats 16000000 in
theorem xzdivmod_a (w : World) (v1 v2 : Value) (x y : Int) (L : Nat) (h1 : AZ w v1 x L) (h2 : AZ w v2 y L) (hL2 : 2 ≤ L) (hL : L ≤ 34359738368) (h0 : y ≠ 0) (hsx : decide (x < 0) = false) (hsy : decide (y < 0) = false) :
    Calls Tryd.prog 77 #[v1, v2] w (RetVB w true fun u v w' => VZ w' w.heap.size u (x.fdiv y) (L + 1) ∧ VZ w' w.heap.size v (x.fmod y) (2 * L + 2)) := by
  have HSX := hid hsx
  have HSY := hid hsy
  clear hsx hsy
  have HX := hid h1
  have HY := hid h2
  obtain ⟨neg1, m1, n1, rfl, hm1, hx⟩ := h1
  obtain ⟨neg2, m2, n2, rfl, hm2, hy⟩ := h2
  clear hm1 hx n1 hm2 hy n2
  have HNX : Hid (∀ V : World, Gr w V → Calls Tryd.prog 65 #[.agg #[.bool neg1, m1]] V (Ret V fun v w' => VZ w' V.heap.size v x L)) := fun V hV => xznorm_c V _ x L (HX.out.gr hV) (by omega)
  have HNY : Hid (∀ V : World, Gr w V → Calls Tryd.prog 65 #[.agg #[.bool neg2, m2]] V (Ret V fun v w' => VZ w' V.heap.size v y L)) := fun V hV => xznorm_c V _ y L (HY.out.gr hV) (by omega)
  have HL := hid hL
  obtain ⟨q, hq⟩ : ∃ q, q = x.natAbs / y.natAbs := ⟨_, rfl⟩
  obtain ⟨r, hr⟩ : ∃ r, r = x.natAbs % y.natAbs := ⟨_, rfl⟩
  obtain ⟨Q, hQ⟩ : ∃ Q, Q = x.fdiv y := ⟨_, rfl⟩
  have hyp : 0 < y.natAbs := by omega
  have hf := fdivZ (x := x) h0
  rw [← hq, ← hr, ← hQ] at hf
  have hR : x - y * Q = x.fmod y := by rw [hQ, ← Int.fmod_def]
  rw [← hQ, ← hR]
  have HDM : Hid (∀ (V : World) (u v : Value), AN V u x.natAbs L → AN V v y.natAbs L → Calls Tryd.prog 40 #[u, v] V (RetVB V true fun u v w' => VN w' V.heap.size u q L ∧ VN w' V.heap.size v r L)) := fun V u v h3 h4 => by
    rw [hq, hr]; exact xdivmod_c V u v _ _ L h3 h4 (by omega) hyp
  have HF := hid hf
  have HLL := hid hL2
  have HMU : Hid (∀ (V : World) (u v : Value), AZ V u y L → AZ V v Q (L + 1) → Calls Tryd.prog 76 #[u, v] V (Ret V fun v w' => VZ w' V.heap.size v (y * Q) (2 * L + 1))) := fun V u v h3 h4 => by
    have h := xzmul_c V u v y Q L (L + 1) h3 h4 (by omega) (by omega)
    rw [show L + (L + 1) = 2 * L + 1 by omega] at h
    exact h
  have HSU : Hid (∀ (V : World) (u v : Value), AZ V u x (2 * L + 1) → AZ V v (y * Q) (2 * L + 1) → Calls Tryd.prog 75 #[u, v] V (Ret V fun v w' => VZ w' V.heap.size v (x - y * Q) (2 * L + 2))) := fun V u v h3 h4 => xzsub_c V u v x (y * Q) (2 * L + 1) h3 h4 (by omega)
  have HO1 : Hid (∀ V : World, Calls Tryd.prog 62 #[.int .i64 1] V (Ret V fun v w' => VZ w' V.heap.size v 1 2)) := fun V => xzof_c V 1 (by decide) (by decide)
  obtain ⟨Rm, hRm⟩ : ∃ R, R = x - y * Q := ⟨_, rfl⟩
  rw [← hRm] at HSU ⊢
  clear hL h0 hq hr hQ hyp hf hR hL2 hRm
  go_enter Tryd.func77, Tryd.ntmps77
  go_upto_region 1 with (fail)
  obtain ⟨W, hW⟩ : ∃ W, W = (((w.alloc (.cells #[.bool neg1, m1] 51)).alloc (.cells #[.bool neg2, m2] 51)).alloc (.cells #[.bool false, .slice none 0 0] 51)).alloc (.cells #[.bool false, .slice none 0 0] 51) := ⟨_, rfl⟩
  obtain ⟨hg, b0, b1, b2, b3⟩ := al4 w #[.bool neg1, m1] #[.bool neg2, m2] #[.bool false, .slice none 0 0] #[.bool false, .slice none 0 0] 51 51 51 51
  rw [← hW] at hg b0 b1 b2 b3 ⊢
  clear hW
  have c00 : W.cell? ⟨w.heap.size, 0, none⟩ = some (.bool neg1) := b0.c 0 rfl
  have c01 : W.cell? ⟨w.heap.size, 1, none⟩ = some m1 := b0.c 1 rfl
  have c10 : W.cell? ⟨w.heap.size + 1, 0, none⟩ = some (.bool neg2) := b1.c 0 rfl
  have c11 : W.cell? ⟨w.heap.size + 1, 1, none⟩ = some m2 := b1.c 1 rfl
  have HB0 := hid b2
  have HB1 := hid b3
  have HG := hid hg
  have HS : Hid (w.heap.size + 1 + 1 + 1 < W.heap.size) := b3.lt
  clear hg b0 b1 b2 b3
  go_wp2_with fail
  refine (HNX.out W HG.out).mono ?_
  rintro e w1 ⟨v, rfl, hv, hg1⟩
  obtain ⟨A1, l1, d1, rfl, hv⟩ := hv.form
  obtain ⟨s1, hs⟩ : ∃ b, b = decide (x < 0) := ⟨_, rfl⟩
  rw [← hs] at hv ⊢
  have hs1 : s1 = false := hs.trans HSX.out
  have HS1 := hid hs
  clear hs
  subst hs1
  obtain ⟨W1, hW⟩ : ∃ V, V = w1.alloc (.cells #[.bool false, .slice A1 l1 d1] 51) := ⟨_, rfl⟩
  go_upto_region 2 with (fail)
  obtain ⟨hgl, bl⟩ := al1 w1 #[.bool false, .slice A1 l1 d1] 51
  rw [← hW] at hgl bl ⊢
  clear hW
  have HX1 := hid (hv.gr hgl)
  have HG1 := hid (hg1.trans hgl)
  have e0 : W1.cell? ⟨w1.heap.size, 0, none⟩ = some (.bool false) := bl.c 0 rfl
  have e1 : W1.cell? ⟨w1.heap.size, 1, none⟩ = some (.slice A1 l1 d1) := bl.c 1 rfl
  have c10 := Gr.cell HG1.out c10
  have c11 := Gr.cell HG1.out c11
  have HL1 : Hid (W.heap.size ≤ w1.heap.size) := hg1.size
  have HLB1 := hid bl.lt
  clear hv hg1 hgl bl c00 c01
  go_wp2_with fail
  refine (HNY.out W1 (HG.out.trans HG1.out)).mono ?_
  rintro e w2 ⟨v, rfl, hv, hg2⟩
  obtain ⟨A2, l2, d2, rfl, hv⟩ := hv.form
  obtain ⟨s2, hs⟩ : ∃ b, b = decide (y < 0) := ⟨_, rfl⟩
  rw [← hs] at hv ⊢
  have hs2 : s2 = false := hs.trans HSY.out
  have HS2 := hid hs
  clear hs
  subst hs2
  obtain ⟨W2, hW⟩ : ∃ V, V = w2.alloc (.cells #[.bool false, .slice A2 l2 d2] 51) := ⟨_, rfl⟩
  go_upto_region 3 with (fail)
  obtain ⟨hgl, bl⟩ := al1 w2 #[.bool false, .slice A2 l2 d2] 51
  rw [← hW] at hgl bl ⊢
  clear hW
  have HX2 := hid (HX1.out.gr (hg2.trans hgl))
  have HY2 := hid (hv.gr hgl)
  have HG2 := hid (HG1.out.trans (hg2.trans hgl))
  have f0 : W2.cell? ⟨w2.heap.size, 0, none⟩ = some (.bool false) := bl.c 0 rfl
  have f1 : W2.cell? ⟨w2.heap.size, 1, none⟩ = some (.slice A2 l2 d2) := bl.c 1 rfl
  have e0 := Gr.cell (hg2.trans hgl) e0
  have e1 := Gr.cell (hg2.trans hgl) e1
  have HL2 : Hid (w1.heap.size < w2.heap.size) := Nat.lt_of_lt_of_le HLB1.out hg2.size
  have HLB2 := hid bl.lt
  have HE0 := hid e0
  have HE1 := hid e1
  have HF0 := hid f0
  have HF1 := hid f1
  clear hv hg2 hgl bl c10 c11
  go_wp2_with fail
  refine (HDM.out W2 _ _ HX2.out.magd.an HY2.out.magd.an).mono ?_
  rintro e w3 ⟨u, v, rfl, ⟨hu, hv⟩, hg3⟩
  have HQ3 := hid hu
  have HR3 := hid hv
  have HX3 := hid (HX2.out.gr hg3)
  have HY3 := hid (HY2.out.gr hg3)
  have HG3 := hid (HG2.out.trans hg3)
  have HD3 := hid hg3
  have e0 := Gr.cell hg3 e0
  have e1 := Gr.cell hg3 e1
  have f0 := Gr.cell hg3 f0
  have f1 := Gr.cell hg3 f1
  have HL3 : Hid (w2.heap.size < w3.heap.size) := Nat.lt_of_lt_of_le HLB2.out hg3.size
  clear hu hv hg3
  go_wp2_with fail
  refine (xzmake_c w3 false _ q L HQ3.out.an (by have := HL.out; omega)).mono ?_
  rintro e w4 ⟨v4, rfl, hv4, hg4⟩
  obtain ⟨A4, l4, d4, rfl, hv4⟩ := hv4.form
  obtain ⟨s4, hs⟩ : ∃ y0, y0 = decide (sgnd false q < 0) := ⟨_, rfl⟩
  rw [← hs] at hv4 ⊢
  clear hs
  obtain ⟨W4, hW⟩ : ∃ V, V = w4.alloc (.cells #[.bool s4, .slice A4 l4 d4] 51) := ⟨_, rfl⟩
  go_upto_region 7 with (fail)
  obtain ⟨hgl, bl⟩ := al1 w4 #[.bool s4, .slice A4 l4 d4] 51
  rw [← hW] at hgl bl ⊢
  clear hW
  have HQ4 := hid (hv4.gr hgl)
  have HR4 := hid (HR3.out.gr (hg4.trans hgl))
  have HX4 := hid (HX3.out.gr (hg4.trans hgl))
  have HY4 := hid (HY3.out.gr (hg4.trans hgl))
  have HG4 := hid (HG3.out.trans (hg4.trans hgl))
  have HD4 := hid (HD3.out.trans (hg4.trans hgl))
  have HB4 := hid bl
  have e0 := Gr.cell (hg4.trans hgl) e0
  have e1 := Gr.cell (hg4.trans hgl) e1
  have f0 := Gr.cell (hg4.trans hgl) f0
  have f1 := Gr.cell (hg4.trans hgl) f1
  have q0 : W4.cell? ⟨w4.heap.size, 0, none⟩ = some (.bool s4) := bl.c 0 rfl
  have q1 : W4.cell? ⟨w4.heap.size, 1, none⟩ = some (.slice A4 l4 d4) := bl.c 1 rfl
  have HL4 : Hid (w3.heap.size ≤ w4.heap.size) := hg4.size
  have HG34 := hid (HG3.out.trans hg4)
  clear hv4 hg4 hgl bl
  have HQE : Hid (VZ W4 w3.heap.size (.agg #[.bool s4, .slice A4 l4 d4]) Q (L + 1)) := by
    have h : Q = (q : Int) := HF.out.1 (by rw [← HS1.out, ← HS2.out])
    rw [h]
    exact HQ4.out.le (by omega)
  have z1 : w.heap.size + 1 + 1 + 1 < w1.heap.size := Nat.lt_of_lt_of_le HS.out HL1.out
  have z2 := HL2.out
  have z3 := HL3.out
  have z4 := HL4.out
  go_upto_region 9 with (fail)
  go_region_held3 (fun V => V.cell? ⟨w1.heap.size, 0, none⟩ = some (.bool false) ∧ V.cell? ⟨w1.heap.size, 1, none⟩ = some (.slice A1 l1 d1) ∧ V.cell? ⟨w2.heap.size, 0, none⟩ = some (.bool false) ∧ V.cell? ⟨w2.heap.size, 1, none⟩ = some (.slice A2 l2 d2) ∧ V.cell? ⟨w4.heap.size, 0, none⟩ = some (.bool s4) ∧ V.cell? ⟨w4.heap.size, 1, none⟩ = some (.slice A4 l4 d4))
    (first
      | exact ⟨e0, e1, f0, f1, q0, q1⟩
      | with_reducible exact ⟨Gr.cell HM8.out e0, Gr.cell HM8.out e1, Gr.cell HM8.out f0, Gr.cell HM8.out f1, Gr.cell HM8.out q0, Gr.cell HM8.out q1⟩
      | with_reducible exact ⟨Gr.cell HG9.out e0, Gr.cell HG9.out e1, Gr.cell HG9.out f0, Gr.cell HG9.out f1, Gr.cell HG9.out q0, Gr.cell HG9.out q1⟩
      | with_reducible exact ⟨set2 (by dsimp only; omega) (Gr.cell HG9.out e0), set2 (by dsimp only; omega) (Gr.cell HG9.out e1), set2 (by dsimp only; omega) (Gr.cell HG9.out f0), set2 (by dsimp only; omega) (Gr.cell HG9.out f1), set2 (by dsimp only; omega) (Gr.cell HG9.out q0), set2 (by dsimp only; omega) (Gr.cell HG9.out q1)⟩
      | with_reducible exact ⟨set2 (by dsimp only; omega) (set2 (by dsimp only; omega) (Gr.cell HG9.out e0)), set2 (by dsimp only; omega) (set2 (by dsimp only; omega) (Gr.cell HG9.out e1)), set2 (by dsimp only; omega) (set2 (by dsimp only; omega) (Gr.cell HG9.out f0)), set2 (by dsimp only; omega) (set2 (by dsimp only; omega) (Gr.cell HG9.out f1)), set2 (by dsimp only; omega) (set2 (by dsimp only; omega) (Gr.cell HG9.out q0)), set2 (by dsimp only; omega) (set2 (by dsimp only; omega) (Gr.cell HG9.out q1))⟩)
    (first
      | (go_at_call 75; refine (HSU.out _ _ _ ((HX4.out.az.le (by omega)).gr HM8.out) HV8.out.az).mono ?_; rintro e w9 ⟨v9, rfl, hv9, hg9⟩; obtain ⟨A9, l9, d9, rfl, hv9⟩ := hv9.form; obtain ⟨s9, hs⟩ : ∃ y0, y0 = decide (Rm < 0) := ⟨_, rfl⟩; rw [← hs] at hv9 ⊢; clear hs; have HG9 := hid (HM8.out.trans hg9); have HV9 := hid (hv9.base (b' := W.heap.size) (Nat.le_trans HG4.out.size HM8.out.size)); have HGA := hid (HG4.out.trans HG9.out); have rc00 : w9.cell? ⟨w.heap.size + 1 + 1, 0, none⟩ = some (.bool false) := (HB0.out.gr HGA.out).c 0 rfl; have rf00 : w9.frozen? ⟨w.heap.size + 1 + 1, 0, none⟩ = false := (HB0.out.gr HGA.out).free 0; have rc01 : w9.cell? ⟨w.heap.size + 1 + 1, 1, none⟩ = some (.slice none 0 0) := (HB0.out.gr HGA.out).c 1 rfl; have rf01 : w9.frozen? ⟨w.heap.size + 1 + 1, 1, none⟩ = false := (HB0.out.gr HGA.out).free 1; have rl0 : w.heap.size + 1 + 1 < w9.heap.size := (HB0.out.gr HGA.out).lt; have rc10 : w9.cell? ⟨w.heap.size + 1 + 1 + 1, 0, none⟩ = some (.bool false) := (HB1.out.gr HGA.out).c 0 rfl; have rf10 : w9.frozen? ⟨w.heap.size + 1 + 1 + 1, 0, none⟩ = false := (HB1.out.gr HGA.out).free 0; have rc11 : w9.cell? ⟨w.heap.size + 1 + 1 + 1, 1, none⟩ = some (.slice none 0 0) := (HB1.out.gr HGA.out).c 1 rfl; have rf11 : w9.frozen? ⟨w.heap.size + 1 + 1 + 1, 1, none⟩ = false := (HB1.out.gr HGA.out).free 1; have rl1 : w.heap.size + 1 + 1 + 1 < w9.heap.size := (HB1.out.gr HGA.out).lt; clear hv9 hg9)
      | (go_at_call 76; refine (HMU.out _ _ _ (HY4.out.az.gr ((Gr.refl W4).drew)) (HQE.out.az.gr ((Gr.refl W4).drew))).mono ?_; rintro e w8 ⟨v8, rfl, hv8, hg8⟩; have HV8 := hid hv8; have HM8 := hid (((Gr.refl W4).drew).trans hg8); clear hv8 hg8))
  go_wp2
  refine int2_end_b rfl rfl rfl rfl (HB0.out.gr HGA.out) (HB1.out.gr HGA.out) (by omega) ?_
  intro V1 V hV1 hV
  have ll0 := HB0.out.lt
  have ll1 := HB1.out.lt
  have a3 := ((HG.out.trans HGA.out).ex hV1 (by omega)).ex hV (by omega)
  have p1 := ((((HQE.out.gr HG9.out).base (b' := W.heap.size) (by have := HG3.out.size; have := HG34.out.size; first | omega | (have := HL5.out; omega))).exb hV1 ll0).exb hV ll1).base (b' := w.heap.size) (by omega)
  have p2 := ((HV9.out.exb hV1 ll0).exb hV ll1).base (b' := w.heap.size) (by omega)
  exact ⟨_, _, rfl, ⟨p1, p2⟩, a3⟩
set_option maxRecDepth 100000 in
set_option maxHeartbeats 16000000 in
theorem xzdivmod_b (w : World) (v1 v2 : Value) (x y : Int) (L : Nat) (h1 : AZ w v1 x L) (h2 : AZ w v2 y L) (hL2 : 2 ≤ L) (hL : L ≤ 34359738368) (h0 : y ≠ 0) (hsx : decide (x < 0) = false) (hsy : decide (y < 0) = true) :
    Calls Tryd.prog 77 #[v1, v2] w (RetVB w true fun u v w' => VZ w' w.heap.size u (x.fdiv y) (L + 1) ∧ VZ w' w.heap.size v (x.fmod y) (2 * L + 2)) := by
  have HSX := hid hsx
  have HSY := hid hsy
  clear hsx hsy
  have HX := hid h1
  have HY := hid h2
  obtain ⟨neg1, m1, n1, rfl, hm1, hx⟩ := h1
  obtain ⟨neg2, m2, n2, rfl, hm2, hy⟩ := h2
  clear hm1 hx n1 hm2 hy n2
  have HNX : Hid (∀ V : World, Gr w V → Calls Tryd.prog 65 #[.agg #[.bool neg1, m1]] V (Ret V fun v w' => VZ w' V.heap.size v x L)) := fun V hV => xznorm_c V _ x L (HX.out.gr hV) (by omega)
  have HNY : Hid (∀ V : World, Gr w V → Calls Tryd.prog 65 #[.agg #[.bool neg2, m2]] V (Ret V fun v w' => VZ w' V.heap.size v y L)) := fun V hV => xznorm_c V _ y L (HY.out.gr hV) (by omega)
  have HL := hid hL
  obtain ⟨q, hq⟩ : ∃ q, q = x.natAbs / y.natAbs := ⟨_, rfl⟩
  obtain ⟨r, hr⟩ : ∃ r, r = x.natAbs % y.natAbs := ⟨_, rfl⟩
  obtain ⟨Q, hQ⟩ : ∃ Q, Q = x.fdiv y := ⟨_, rfl⟩
  have hyp : 0 < y.natAbs := by omega
  have hf := fdivZ (x := x) h0
  rw [← hq, ← hr, ← hQ] at hf
  have hR : x - y * Q = x.fmod y := by rw [hQ, ← Int.fmod_def]
  rw [← hQ, ← hR]
  have HDM : Hid (∀ (V : World) (u v : Value), AN V u x.natAbs L → AN V v y.natAbs L → Calls Tryd.prog 40 #[u, v] V (RetVB V true fun u v w' => VN w' V.heap.size u q L ∧ VN w' V.heap.size v r L)) := fun V u v h3 h4 => by
    rw [hq, hr]; exact xdivmod_c V u v _ _ L h3 h4 (by omega) hyp
  have HF := hid hf
  have HLL := hid hL2
  have HMU : Hid (∀ (V : World) (u v : Value), AZ V u y L → AZ V v Q (L + 1) → Calls Tryd.prog 76 #[u, v] V (Ret V fun v w' => VZ w' V.heap.size v (y * Q) (2 * L + 1))) := fun V u v h3 h4 => by
    have h := xzmul_c V u v y Q L (L + 1) h3 h4 (by omega) (by omega)
    rw [show L + (L + 1) = 2 * L + 1 by omega] at h
    exact h
  have HSU : Hid (∀ (V : World) (u v : Value), AZ V u x (2 * L + 1) → AZ V v (y * Q) (2 * L + 1) → Calls Tryd.prog 75 #[u, v] V (Ret V fun v w' => VZ w' V.heap.size v (x - y * Q) (2 * L + 2))) := fun V u v h3 h4 => xzsub_c V u v x (y * Q) (2 * L + 1) h3 h4 (by omega)
  have HO1 : Hid (∀ V : World, Calls Tryd.prog 62 #[.int .i64 1] V (Ret V fun v w' => VZ w' V.heap.size v 1 2)) := fun V => xzof_c V 1 (by decide) (by decide)
  obtain ⟨Rm, hRm⟩ : ∃ R, R = x - y * Q := ⟨_, rfl⟩
  rw [← hRm] at HSU ⊢
  clear hL h0 hq hr hQ hyp hf hR hL2 hRm
  go_enter Tryd.func77, Tryd.ntmps77
  go_upto_region 1 with (fail)
  obtain ⟨W, hW⟩ : ∃ W, W = (((w.alloc (.cells #[.bool neg1, m1] 51)).alloc (.cells #[.bool neg2, m2] 51)).alloc (.cells #[.bool false, .slice none 0 0] 51)).alloc (.cells #[.bool false, .slice none 0 0] 51) := ⟨_, rfl⟩
  obtain ⟨hg, b0, b1, b2, b3⟩ := al4 w #[.bool neg1, m1] #[.bool neg2, m2] #[.bool false, .slice none 0 0] #[.bool false, .slice none 0 0] 51 51 51 51
  rw [← hW] at hg b0 b1 b2 b3 ⊢
  clear hW
  have c00 : W.cell? ⟨w.heap.size, 0, none⟩ = some (.bool neg1) := b0.c 0 rfl
  have c01 : W.cell? ⟨w.heap.size, 1, none⟩ = some m1 := b0.c 1 rfl
  have c10 : W.cell? ⟨w.heap.size + 1, 0, none⟩ = some (.bool neg2) := b1.c 0 rfl
  have c11 : W.cell? ⟨w.heap.size + 1, 1, none⟩ = some m2 := b1.c 1 rfl
  have HB0 := hid b2
  have HB1 := hid b3
  have HG := hid hg
  have HS : Hid (w.heap.size + 1 + 1 + 1 < W.heap.size) := b3.lt
  clear hg b0 b1 b2 b3
  go_wp2_with fail
  refine (HNX.out W HG.out).mono ?_
  rintro e w1 ⟨v, rfl, hv, hg1⟩
  obtain ⟨A1, l1, d1, rfl, hv⟩ := hv.form
  obtain ⟨s1, hs⟩ : ∃ b, b = decide (x < 0) := ⟨_, rfl⟩
  rw [← hs] at hv ⊢
  have hs1 : s1 = false := hs.trans HSX.out
  have HS1 := hid hs
  clear hs
  subst hs1
  obtain ⟨W1, hW⟩ : ∃ V, V = w1.alloc (.cells #[.bool false, .slice A1 l1 d1] 51) := ⟨_, rfl⟩
  go_upto_region 2 with (fail)
  obtain ⟨hgl, bl⟩ := al1 w1 #[.bool false, .slice A1 l1 d1] 51
  rw [← hW] at hgl bl ⊢
  clear hW
  have HX1 := hid (hv.gr hgl)
  have HG1 := hid (hg1.trans hgl)
  have e0 : W1.cell? ⟨w1.heap.size, 0, none⟩ = some (.bool false) := bl.c 0 rfl
  have e1 : W1.cell? ⟨w1.heap.size, 1, none⟩ = some (.slice A1 l1 d1) := bl.c 1 rfl
  have c10 := Gr.cell HG1.out c10
  have c11 := Gr.cell HG1.out c11
  have HL1 : Hid (W.heap.size ≤ w1.heap.size) := hg1.size
  have HLB1 := hid bl.lt
  clear hv hg1 hgl bl c00 c01
  go_wp2_with fail
  refine (HNY.out W1 (HG.out.trans HG1.out)).mono ?_
  rintro e w2 ⟨v, rfl, hv, hg2⟩
  obtain ⟨A2, l2, d2, rfl, hv⟩ := hv.form
  obtain ⟨s2, hs⟩ : ∃ b, b = decide (y < 0) := ⟨_, rfl⟩
  rw [← hs] at hv ⊢
  have hs2 : s2 = true := hs.trans HSY.out
  have HS2 := hid hs
  clear hs
  subst hs2
  obtain ⟨W2, hW⟩ : ∃ V, V = w2.alloc (.cells #[.bool true, .slice A2 l2 d2] 51) := ⟨_, rfl⟩
  go_upto_region 3 with (fail)
  obtain ⟨hgl, bl⟩ := al1 w2 #[.bool true, .slice A2 l2 d2] 51
  rw [← hW] at hgl bl ⊢
  clear hW
  have HX2 := hid (HX1.out.gr (hg2.trans hgl))
  have HY2 := hid (hv.gr hgl)
  have HG2 := hid (HG1.out.trans (hg2.trans hgl))
  have f0 : W2.cell? ⟨w2.heap.size, 0, none⟩ = some (.bool true) := bl.c 0 rfl
  have f1 : W2.cell? ⟨w2.heap.size, 1, none⟩ = some (.slice A2 l2 d2) := bl.c 1 rfl
  have e0 := Gr.cell (hg2.trans hgl) e0
  have e1 := Gr.cell (hg2.trans hgl) e1
  have HL2 : Hid (w1.heap.size < w2.heap.size) := Nat.lt_of_lt_of_le HLB1.out hg2.size
  have HLB2 := hid bl.lt
  have HE0 := hid e0
  have HE1 := hid e1
  have HF0 := hid f0
  have HF1 := hid f1
  clear hv hg2 hgl bl c10 c11
  go_wp2_with fail
  refine (HDM.out W2 _ _ HX2.out.magd.an HY2.out.magd.an).mono ?_
  rintro e w3 ⟨u, v, rfl, ⟨hu, hv⟩, hg3⟩
  have HQ3 := hid hu
  have HR3 := hid hv
  have HX3 := hid (HX2.out.gr hg3)
  have HY3 := hid (HY2.out.gr hg3)
  have HG3 := hid (HG2.out.trans hg3)
  have HD3 := hid hg3
  have e0 := Gr.cell hg3 e0
  have e1 := Gr.cell hg3 e1
  have f0 := Gr.cell hg3 f0
  have f1 := Gr.cell hg3 f1
  have HL3 : Hid (w2.heap.size < w3.heap.size) := Nat.lt_of_lt_of_le HLB2.out hg3.size
  clear hu hv hg3
  go_wp2_with fail
  refine (xzmake_c w3 true _ q L HQ3.out.an (by have := HL.out; omega)).mono ?_
  rintro e w4 ⟨v4, rfl, hv4, hg4⟩
  obtain ⟨A4, l4, d4, rfl, hv4⟩ := hv4.form
  obtain ⟨s4, hs⟩ : ∃ y0, y0 = decide (sgnd true q < 0) := ⟨_, rfl⟩
  rw [← hs] at hv4 ⊢
  clear hs
  obtain ⟨W4, hW⟩ : ∃ V, V = w4.alloc (.cells #[.bool s4, .slice A4 l4 d4] 51) := ⟨_, rfl⟩
  go_upto_region 7 with (fail)
  obtain ⟨hgl, bl⟩ := al1 w4 #[.bool s4, .slice A4 l4 d4] 51
  rw [← hW] at hgl bl ⊢
  clear hW
  have HQ4 := hid (hv4.gr hgl)
  have HR4 := hid (HR3.out.gr (hg4.trans hgl))
  have HX4 := hid (HX3.out.gr (hg4.trans hgl))
  have HY4 := hid (HY3.out.gr (hg4.trans hgl))
  have HG4 := hid (HG3.out.trans (hg4.trans hgl))
  have HD4 := hid (HD3.out.trans (hg4.trans hgl))
  have HB4 := hid bl
  have e0 := Gr.cell (hg4.trans hgl) e0
  have e1 := Gr.cell (hg4.trans hgl) e1
  have f0 := Gr.cell (hg4.trans hgl) f0
  have f1 := Gr.cell (hg4.trans hgl) f1
  have q0 : W4.cell? ⟨w4.heap.size, 0, none⟩ = some (.bool s4) := bl.c 0 rfl
  have q1 : W4.cell? ⟨w4.heap.size, 1, none⟩ = some (.slice A4 l4 d4) := bl.c 1 rfl
  have HL4 : Hid (w3.heap.size ≤ w4.heap.size) := hg4.size
  have HG34 := hid (HG3.out.trans hg4)
  clear hv4 hg4 hgl bl
  have z1 : w.heap.size + 1 + 1 + 1 < w1.heap.size := Nat.lt_of_lt_of_le HS.out HL1.out
  have z2 := HL2.out
  have z3 := HL3.out
  have z4 := HL4.out
  obtain ⟨lr, hlr⟩ : ∃ l, l = (limbs r).length := ⟨_, rfl⟩
  have hlr0 : lr = 0 ↔ r = 0 := by
    rw [hlr]
    constructor
    · intro h
      have := limbs_nil.1 (List.eq_nil_of_length_eq_zero h); omega
    · intro h; rw [h, limbs_zero]; rfl
  have HLR := hid hlr
  have HLR0 := hid hlr0
  clear hlr hlr0
  have hdf : decide (x < 0) ≠ decide (y < 0) := by rw [← HS1.out, ← HS2.out]; decide
  have HDF := hid hdf
  clear hdf
  go_wp2_with fail
  refine (xnorm_c W4 _ r L HR4.out.an (by have := HL.out; omega)).mono ?_
  rintro e w5 ⟨v5, rfl, ⟨A5, c5, rfl, _, _, _⟩, hg5⟩
  rw [← HLR.out]
  have HQ5 := hid (HQ4.out.gr hg5)
  have HX5 := hid (HX4.out.gr hg5)
  have HY5 := hid (HY4.out.gr hg5)
  have HB5 := hid (HB4.out.gr hg5)
  have HG5 := hid (HG4.out.trans hg5)
  have HD5 := hid (HD4.out.trans hg5)
  have e0 := Gr.cell hg5 e0
  have e1 := Gr.cell hg5 e1
  have f0 := Gr.cell hg5 f0
  have f1 := Gr.cell hg5 f1
  have q0 := Gr.cell hg5 q0
  have q1 := Gr.cell hg5 q1
  have HL5 : Hid (w4.heap.size < w5.heap.size) := HB5.out.lt
  clear hg5
  by_cases hr0 : lr = 0
  · have HQE : Hid (VZ w5 w3.heap.size (.agg #[.bool s4, .slice A4 l4 d4]) Q (L + 1)) := by
      have h : Q = -(q : Int) := HF.out.2.1 HDF.out (HLR0.out.1 hr0)
      rw [h]
      exact HQ5.out.le (by omega)
    have hlt : ¬ (0 : Int) < lr := by omega
    clear hr0
    go_upto_region 9 with (fail)
    go_region_held3 (fun V => V.cell? ⟨w1.heap.size, 0, none⟩ = some (.bool false) ∧ V.cell? ⟨w1.heap.size, 1, none⟩ = some (.slice A1 l1 d1) ∧ V.cell? ⟨w2.heap.size, 0, none⟩ = some (.bool true) ∧ V.cell? ⟨w2.heap.size, 1, none⟩ = some (.slice A2 l2 d2) ∧ V.cell? ⟨w4.heap.size, 0, none⟩ = some (.bool s4) ∧ V.cell? ⟨w4.heap.size, 1, none⟩ = some (.slice A4 l4 d4))
      (first
        | exact ⟨e0, e1, f0, f1, q0, q1⟩
        | with_reducible exact ⟨Gr.cell HM8.out e0, Gr.cell HM8.out e1, Gr.cell HM8.out f0, Gr.cell HM8.out f1, Gr.cell HM8.out q0, Gr.cell HM8.out q1⟩
        | with_reducible exact ⟨Gr.cell HG9.out e0, Gr.cell HG9.out e1, Gr.cell HG9.out f0, Gr.cell HG9.out f1, Gr.cell HG9.out q0, Gr.cell HG9.out q1⟩
        | with_reducible exact ⟨set2 (by dsimp only; omega) (Gr.cell HG9.out e0), set2 (by dsimp only; omega) (Gr.cell HG9.out e1), set2 (by dsimp only; omega) (Gr.cell HG9.out f0), set2 (by dsimp only; omega) (Gr.cell HG9.out f1), set2 (by dsimp only; omega) (Gr.cell HG9.out q0), set2 (by dsimp only; omega) (Gr.cell HG9.out q1)⟩
        | with_reducible exact ⟨set2 (by dsimp only; omega) (set2 (by dsimp only; omega) (Gr.cell HG9.out e0)), set2 (by dsimp only; omega) (set2 (by dsimp only; omega) (Gr.cell HG9.out e1)), set2 (by dsimp only; omega) (set2 (by dsimp only; omega) (Gr.cell HG9.out f0)), set2 (by dsimp only; omega) (set2 (by dsimp only; omega) (Gr.cell HG9.out f1)), set2 (by dsimp only; omega) (set2 (by dsimp only; omega) (Gr.cell HG9.out q0)), set2 (by dsimp only; omega) (set2 (by dsimp only; omega) (Gr.cell HG9.out q1))⟩)
      (first
        | (go_at_call 75; refine (HSU.out _ _ _ ((HX5.out.az.le (by omega)).gr HM8.out) HV8.out.az).mono ?_; rintro e w9 ⟨v9, rfl, hv9, hg9⟩; obtain ⟨A9, l9, d9, rfl, hv9⟩ := hv9.form; obtain ⟨s9, hs⟩ : ∃ y0, y0 = decide (Rm < 0) := ⟨_, rfl⟩; rw [← hs] at hv9 ⊢; clear hs; have HG9 := hid (HM8.out.trans hg9); have HV9 := hid (hv9.base (b' := W.heap.size) (Nat.le_trans HG5.out.size HM8.out.size)); have HGA := hid (HG5.out.trans HG9.out); have rc00 : w9.cell? ⟨w.heap.size + 1 + 1, 0, none⟩ = some (.bool false) := (HB0.out.gr HGA.out).c 0 rfl; have rf00 : w9.frozen? ⟨w.heap.size + 1 + 1, 0, none⟩ = false := (HB0.out.gr HGA.out).free 0; have rc01 : w9.cell? ⟨w.heap.size + 1 + 1, 1, none⟩ = some (.slice none 0 0) := (HB0.out.gr HGA.out).c 1 rfl; have rf01 : w9.frozen? ⟨w.heap.size + 1 + 1, 1, none⟩ = false := (HB0.out.gr HGA.out).free 1; have rl0 : w.heap.size + 1 + 1 < w9.heap.size := (HB0.out.gr HGA.out).lt; have rc10 : w9.cell? ⟨w.heap.size + 1 + 1 + 1, 0, none⟩ = some (.bool false) := (HB1.out.gr HGA.out).c 0 rfl; have rf10 : w9.frozen? ⟨w.heap.size + 1 + 1 + 1, 0, none⟩ = false := (HB1.out.gr HGA.out).free 0; have rc11 : w9.cell? ⟨w.heap.size + 1 + 1 + 1, 1, none⟩ = some (.slice none 0 0) := (HB1.out.gr HGA.out).c 1 rfl; have rf11 : w9.frozen? ⟨w.heap.size + 1 + 1 + 1, 1, none⟩ = false := (HB1.out.gr HGA.out).free 1; have rl1 : w.heap.size + 1 + 1 + 1 < w9.heap.size := (HB1.out.gr HGA.out).lt; clear hv9 hg9)
        | (go_at_call 76; refine (HMU.out _ _ _ (HY5.out.az.gr ((Gr.refl w5).drew)) (HQE.out.az.gr ((Gr.refl w5).drew))).mono ?_; rintro e w8 ⟨v8, rfl, hv8, hg8⟩; have HV8 := hid hv8; have HM8 := hid (((Gr.refl w5).drew).trans hg8); clear hv8 hg8))
    go_wp2
    refine int2_end_b rfl rfl rfl rfl (HB0.out.gr HGA.out) (HB1.out.gr HGA.out) (by omega) ?_
    intro V1 V hV1 hV
    have ll0 := HB0.out.lt
    have ll1 := HB1.out.lt
    have a3 := ((HG.out.trans HGA.out).ex hV1 (by omega)).ex hV (by omega)
    have p1 := ((((HQE.out.gr HG9.out).base (b' := W.heap.size) (by have := HG3.out.size; have := HG34.out.size; first | omega | (have := HL5.out; omega))).exb hV1 ll0).exb hV ll1).base (b' := w.heap.size) (by omega)
    have p2 := ((HV9.out.exb hV1 ll0).exb hV ll1).base (b' := w.heap.size) (by omega)
    exact ⟨_, _, rfl, ⟨p1, p2⟩, a3⟩
  · have hQ1 : -(q : Int) - 1 = Q := (HF.out.2.2 HDF.out (fun h => hr0 (HLR0.out.2 h))).symm
    have HQ1 := hid hQ1
    have hlt : (0 : Int) < lr := by omega
    have HSQ : Hid (∀ (V : World) (u v : Value), AZ V u (-(q : Int)) L → AZ V v 1 L → Calls Tryd.prog 75 #[u, v] V (Ret V fun v w' => VZ w' V.heap.size v Q (L + 1))) := fun V u v h3 h4 => by
      have h := xzsub_c V u v (-(q : Int)) 1 L h3 h4 (by have := HL.out; omega)
      rw [HQ1.out] at h
      exact h
    have HZ5 : Hid (AZ w5 (.agg #[.bool s4, .slice A4 l4 d4]) (-(q : Int)) L) := HQ5.out.az
    clear hr0 hQ1
    go_upto_region 8 with (fail)
    go_region_with
      (first
        | (go_at_call 75; refine (HSQ.out _ _ _ (HZ5.out.gr HG6.out) (HV6.out.az.le HLL.out)).mono ?_; rintro e7 w7 ⟨v7, rfl, hv7, hg7⟩; obtain ⟨A7, l7, d7, rfl, hv7⟩ := hv7.form; obtain ⟨s7, hs⟩ : ∃ y0, y0 = decide (Q < 0) := ⟨_, rfl⟩; rw [← hs] at hv7 ⊢; clear hs; have HG7 := hid (HG6.out.trans hg7); have HB7 := hid (HB5.out.gr HG7.out); have HV7 := hid (hv7.base (b' := w5.heap.size) HG6.out.size); have z0 : w7.cell? ⟨w4.heap.size, 0, none⟩ = some (.bool s4) := HB7.out.c 0 rfl; have p0 : w7.frozen? ⟨w4.heap.size, 0, none⟩ = false := HB7.out.free 0; have z1' : w7.cell? ⟨w4.heap.size, 1, none⟩ = some (.slice A4 l4 d4) := HB7.out.c 1 rfl; have p1 : w7.frozen? ⟨w4.heap.size, 1, none⟩ = false := HB7.out.free 1; have p3 : w4.heap.size < w7.heap.size := HB7.out.lt; clear hg7 hv7)
        | (go_at_call 62; refine (HO1.out _).mono ?_; rintro e6 w6 ⟨v6, rfl, hv6, hg6⟩; have HV6 := hid hv6; have HG6 := hid (((Gr.refl w5).drew).trans hg6); have q0 := Gr.cell HG6.out q0; have q1 := Gr.cell HG6.out q1; clear hv6 hg6))
    all_goals
      obtain ⟨W8, hW⟩ : ∃ V, V = (w7.setCell ⟨w4.heap.size, 0, none⟩ (.bool s7)).setCell ⟨w4.heap.size, 1, none⟩ (.slice A7 l7 d7) := ⟨_, rfl⟩
      go_upto_region 9 with (fail)
      have hx : Ex w4.heap.size w7 W8 := by rw [hW]; exact ((Ex.refl _ w7).setCell 0 _).setCell 1 _
      have hbn : Blk W8 w4.heap.size #[.bool s7, .slice A7 l7 d7] 51 := by rw [hW]; exact (HB7.out.set 0 _).set 1 _
      rw [← hW]
      clear hW z0 p0 z1' p1 p3
      have HQE : Hid (VZ W8 w5.heap.size (.agg #[.bool s7, .slice A7 l7 d7]) Q (L + 1)) := HV7.out.exb hx HL5.out
      have HD8 := hid ((HD5.out.trans HG7.out).ex hx (by have := HLB2.out; have := HD3.out.size; have := HL4.out; omega))
      have HX8 := hid (HX2.out.gr HD8.out)
      have HY8 := hid (HY2.out.gr HD8.out)
      have HG8z := hid (HG2.out.trans HD8.out)
      have e0 := Gr.cell HD8.out HE0.out
      have e1 := Gr.cell HD8.out HE1.out
      have f0 := Gr.cell HD8.out HF0.out
      have f1 := Gr.cell HD8.out HF1.out
      have q0 : W8.cell? ⟨w4.heap.size, 0, none⟩ = some (.bool s7) := hbn.c 0 rfl
      have q1 : W8.cell? ⟨w4.heap.size, 1, none⟩ = some (.slice A7 l7 d7) := hbn.c 1 rfl
      clear hx hbn
      go_region_held3 (fun V => V.cell? ⟨w1.heap.size, 0, none⟩ = some (.bool false) ∧ V.cell? ⟨w1.heap.size, 1, none⟩ = some (.slice A1 l1 d1) ∧ V.cell? ⟨w2.heap.size, 0, none⟩ = some (.bool true) ∧ V.cell? ⟨w2.heap.size, 1, none⟩ = some (.slice A2 l2 d2) ∧ V.cell? ⟨w4.heap.size, 0, none⟩ = some (.bool s7) ∧ V.cell? ⟨w4.heap.size, 1, none⟩ = some (.slice A7 l7 d7))
        (first
          | exact ⟨e0, e1, f0, f1, q0, q1⟩
          | with_reducible exact ⟨Gr.cell HM8.out e0, Gr.cell HM8.out e1, Gr.cell HM8.out f0, Gr.cell HM8.out f1, Gr.cell HM8.out q0, Gr.cell HM8.out q1⟩
          | with_reducible exact ⟨Gr.cell HG9.out e0, Gr.cell HG9.out e1, Gr.cell HG9.out f0, Gr.cell HG9.out f1, Gr.cell HG9.out q0, Gr.cell HG9.out q1⟩
          | with_reducible exact ⟨set2 (by dsimp only; omega) (Gr.cell HG9.out e0), set2 (by dsimp only; omega) (Gr.cell HG9.out e1), set2 (by dsimp only; omega) (Gr.cell HG9.out f0), set2 (by dsimp only; omega) (Gr.cell HG9.out f1), set2 (by dsimp only; omega) (Gr.cell HG9.out q0), set2 (by dsimp only; omega) (Gr.cell HG9.out q1)⟩
          | with_reducible exact ⟨set2 (by dsimp only; omega) (set2 (by dsimp only; omega) (Gr.cell HG9.out e0)), set2 (by dsimp only; omega) (set2 (by dsimp only; omega) (Gr.cell HG9.out e1)), set2 (by dsimp only; omega) (set2 (by dsimp only; omega) (Gr.cell HG9.out f0)), set2 (by dsimp only; omega) (set2 (by dsimp only; omega) (Gr.cell HG9.out f1)), set2 (by dsimp only; omega) (set2 (by dsimp only; omega) (Gr.cell HG9.out q0)), set2 (by dsimp only; omega) (set2 (by dsimp only; omega) (Gr.cell HG9.out q1))⟩)
        (first
          | (go_at_call 75; refine (HSU.out _ _ _ ((HX8.out.az.le (by omega)).gr HM8.out) HV8.out.az).mono ?_; rintro e w9 ⟨v9, rfl, hv9, hg9⟩; obtain ⟨A9, l9, d9, rfl, hv9⟩ := hv9.form; obtain ⟨s9, hs⟩ : ∃ y0, y0 = decide (Rm < 0) := ⟨_, rfl⟩; rw [← hs] at hv9 ⊢; clear hs; have HG9 := hid (HM8.out.trans hg9); have HV9 := hid (hv9.base (b' := W.heap.size) (Nat.le_trans HG8z.out.size HM8.out.size)); have HGA := hid (HG8z.out.trans HG9.out); have rc00 : w9.cell? ⟨w.heap.size + 1 + 1, 0, none⟩ = some (.bool false) := (HB0.out.gr HGA.out).c 0 rfl; have rf00 : w9.frozen? ⟨w.heap.size + 1 + 1, 0, none⟩ = false := (HB0.out.gr HGA.out).free 0; have rc01 : w9.cell? ⟨w.heap.size + 1 + 1, 1, none⟩ = some (.slice none 0 0) := (HB0.out.gr HGA.out).c 1 rfl; have rf01 : w9.frozen? ⟨w.heap.size + 1 + 1, 1, none⟩ = false := (HB0.out.gr HGA.out).free 1; have rl0 : w.heap.size + 1 + 1 < w9.heap.size := (HB0.out.gr HGA.out).lt; have rc10 : w9.cell? ⟨w.heap.size + 1 + 1 + 1, 0, none⟩ = some (.bool false) := (HB1.out.gr HGA.out).c 0 rfl; have rf10 : w9.frozen? ⟨w.heap.size + 1 + 1 + 1, 0, none⟩ = false := (HB1.out.gr HGA.out).free 0; have rc11 : w9.cell? ⟨w.heap.size + 1 + 1 + 1, 1, none⟩ = some (.slice none 0 0) := (HB1.out.gr HGA.out).c 1 rfl; have rf11 : w9.frozen? ⟨w.heap.size + 1 + 1 + 1, 1, none⟩ = false := (HB1.out.gr HGA.out).free 1; have rl1 : w.heap.size + 1 + 1 + 1 < w9.heap.size := (HB1.out.gr HGA.out).lt; clear hv9 hg9)
          | (go_at_call 76; refine (HMU.out _ _ _ (HY8.out.az.gr ((Gr.refl W8).drew)) (HQE.out.az.gr ((Gr.refl W8).drew))).mono ?_; rintro e w8 ⟨v8, rfl, hv8, hg8⟩; have HV8 := hid hv8; have HM8 := hid (((Gr.refl W8).drew).trans hg8); clear hv8 hg8))
      go_wp2
      refine int2_end_b rfl rfl rfl rfl (HB0.out.gr HGA.out) (HB1.out.gr HGA.out) (by omega) ?_
      intro V1 V hV1 hV
      have ll0 := HB0.out.lt
      have ll1 := HB1.out.lt
      have a3 := ((HG.out.trans HGA.out).ex hV1 (by omega)).ex hV (by omega)
      have p1 := ((((HQE.out.gr HG9.out).base (b' := W.heap.size) (by have := HG3.out.size; have := HG34.out.size; first | omega | (have := HL5.out; omega))).exb hV1 ll0).exb hV ll1).base (b' := w.heap.size) (by omega)
      have p2 := ((HV9.out.exb hV1 ll0).exb hV ll1).base (b' := w.heap.size) (by omega)
      exact ⟨_, _, rfl, ⟨p1, p2⟩, a3⟩
set_option maxRecDepth 100000 in
set_option maxHeartbeats 16000000 in
theorem xzdivmod_k (w : World) (v1 v2 : Value) (x y : Int) (L : Nat) (h1 : AZ w v1 x L) (h2 : AZ w v2 y L) (hL2 : 2 ≤ L) (hL : L ≤ 34359738368) (h0 : y ≠ 0) (hsx : decide (x < 0) = true) (hsy : decide (y < 0) = false) :
    Calls Tryd.prog 77 #[v1, v2] w (RetVB w true fun u v w' => VZ w' w.heap.size u (x.fdiv y) (L + 1) ∧ VZ w' w.heap.size v (x.fmod y) (2 * L + 2)) := by
  have HSX := hid hsx
  have HSY := hid hsy
  clear hsx hsy
  have HX := hid h1
  have HY := hid h2
  obtain ⟨neg1, m1, n1, rfl, hm1, hx⟩ := h1
  obtain ⟨neg2, m2, n2, rfl, hm2, hy⟩ := h2
  clear hm1 hx n1 hm2 hy n2
  have HNX : Hid (∀ V : World, Gr w V → Calls Tryd.prog 65 #[.agg #[.bool neg1, m1]] V (Ret V fun v w' => VZ w' V.heap.size v x L)) := fun V hV => xznorm_c V _ x L (HX.out.gr hV) (by omega)
  have HNY : Hid (∀ V : World, Gr w V → Calls Tryd.prog 65 #[.agg #[.bool neg2, m2]] V (Ret V fun v w' => VZ w' V.heap.size v y L)) := fun V hV => xznorm_c V _ y L (HY.out.gr hV) (by omega)
  have HL := hid hL
  obtain ⟨q, hq⟩ : ∃ q, q = x.natAbs / y.natAbs := ⟨_, rfl⟩
  obtain ⟨r, hr⟩ : ∃ r, r = x.natAbs % y.natAbs := ⟨_, rfl⟩
  obtain ⟨Q, hQ⟩ : ∃ Q, Q = x.fdiv y := ⟨_, rfl⟩
  have hyp : 0 < y.natAbs := by omega
  have hf := fdivZ (x := x) h0
  rw [← hq, ← hr, ← hQ] at hf
  have hR : x - y * Q = x.fmod y := by rw [hQ, ← Int.fmod_def]
  rw [← hQ, ← hR]
  have HDM : Hid (∀ (V : World) (u v : Value), AN V u x.natAbs L → AN V v y.natAbs L → Calls Tryd.prog 40 #[u, v] V (RetVB V true fun u v w' => VN w' V.heap.size u q L ∧ VN w' V.heap.size v r L)) := fun V u v h3 h4 => by
    rw [hq, hr]; exact xdivmod_c V u v _ _ L h3 h4 (by omega) hyp
  have HF := hid hf
  have HLL := hid hL2
  have HMU : Hid (∀ (V : World) (u v : Value), AZ V u y L → AZ V v Q (L + 1) → Calls Tryd.prog 76 #[u, v] V (Ret V fun v w' => VZ w' V.heap.size v (y * Q) (2 * L + 1))) := fun V u v h3 h4 => by
    have h := xzmul_c V u v y Q L (L + 1) h3 h4 (by omega) (by omega)
    rw [show L + (L + 1) = 2 * L + 1 by omega] at h
    exact h
  have HSU : Hid (∀ (V : World) (u v : Value), AZ V u x (2 * L + 1) → AZ V v (y * Q) (2 * L + 1) → Calls Tryd.prog 75 #[u, v] V (Ret V fun v w' => VZ w' V.heap.size v (x - y * Q) (2 * L + 2))) := fun V u v h3 h4 => xzsub_c V u v x (y * Q) (2 * L + 1) h3 h4 (by omega)
  have HO1 : Hid (∀ V : World, Calls Tryd.prog 62 #[.int .i64 1] V (Ret V fun v w' => VZ w' V.heap.size v 1 2)) := fun V => xzof_c V 1 (by decide) (by decide)
  obtain ⟨Rm, hRm⟩ : ∃ R, R = x - y * Q := ⟨_, rfl⟩
  rw [← hRm] at HSU ⊢
  clear hL h0 hq hr hQ hyp hf hR hL2 hRm
  go_enter Tryd.func77, Tryd.ntmps77
  go_upto_region 1 with (fail)
  obtain ⟨W, hW⟩ : ∃ W, W = (((w.alloc (.cells #[.bool neg1, m1] 51)).alloc (.cells #[.bool neg2, m2] 51)).alloc (.cells #[.bool false, .slice none 0 0] 51)).alloc (.cells #[.bool false, .slice none 0 0] 51) := ⟨_, rfl⟩
  obtain ⟨hg, b0, b1, b2, b3⟩ := al4 w #[.bool neg1, m1] #[.bool neg2, m2] #[.bool false, .slice none 0 0] #[.bool false, .slice none 0 0] 51 51 51 51
  rw [← hW] at hg b0 b1 b2 b3 ⊢
  clear hW
  have c00 : W.cell? ⟨w.heap.size, 0, none⟩ = some (.bool neg1) := b0.c 0 rfl
  have c01 : W.cell? ⟨w.heap.size, 1, none⟩ = some m1 := b0.c 1 rfl
  have c10 : W.cell? ⟨w.heap.size + 1, 0, none⟩ = some (.bool neg2) := b1.c 0 rfl
  have c11 : W.cell? ⟨w.heap.size + 1, 1, none⟩ = some m2 := b1.c 1 rfl
  have HB0 := hid b2
  have HB1 := hid b3
  have HG := hid hg
  have HS : Hid (w.heap.size + 1 + 1 + 1 < W.heap.size) := b3.lt
  clear hg b0 b1 b2 b3
  go_wp2_with fail
  refine (HNX.out W HG.out).mono ?_
  rintro e w1 ⟨v, rfl, hv, hg1⟩
  obtain ⟨A1, l1, d1, rfl, hv⟩ := hv.form
  obtain ⟨s1, hs⟩ : ∃ b, b = decide (x < 0) := ⟨_, rfl⟩
  rw [← hs] at hv ⊢
  have hs1 : s1 = true := hs.trans HSX.out
  have HS1 := hid hs
  clear hs
  subst hs1
  obtain ⟨W1, hW⟩ : ∃ V, V = w1.alloc (.cells #[.bool true, .slice A1 l1 d1] 51) := ⟨_, rfl⟩
  go_upto_region 2 with (fail)
  obtain ⟨hgl, bl⟩ := al1 w1 #[.bool true, .slice A1 l1 d1] 51
  rw [← hW] at hgl bl ⊢
  clear hW
  have HX1 := hid (hv.gr hgl)
  have HG1 := hid (hg1.trans hgl)
  have e0 : W1.cell? ⟨w1.heap.size, 0, none⟩ = some (.bool true) := bl.c 0 rfl
  have e1 : W1.cell? ⟨w1.heap.size, 1, none⟩ = some (.slice A1 l1 d1) := bl.c 1 rfl
  have c10 := Gr.cell HG1.out c10
  have c11 := Gr.cell HG1.out c11
  have HL1 : Hid (W.heap.size ≤ w1.heap.size) := hg1.size
  have HLB1 := hid bl.lt
  clear hv hg1 hgl bl c00 c01
  go_wp2_with fail
  refine (HNY.out W1 (HG.out.trans HG1.out)).mono ?_
  rintro e w2 ⟨v, rfl, hv, hg2⟩
  obtain ⟨A2, l2, d2, rfl, hv⟩ := hv.form
  obtain ⟨s2, hs⟩ : ∃ b, b = decide (y < 0) := ⟨_, rfl⟩
  rw [← hs] at hv ⊢
  have hs2 : s2 = false := hs.trans HSY.out
  have HS2 := hid hs
  clear hs
  subst hs2
  obtain ⟨W2, hW⟩ : ∃ V, V = w2.alloc (.cells #[.bool false, .slice A2 l2 d2] 51) := ⟨_, rfl⟩
  go_upto_region 3 with (fail)
  obtain ⟨hgl, bl⟩ := al1 w2 #[.bool false, .slice A2 l2 d2] 51
  rw [← hW] at hgl bl ⊢
  clear hW
  have HX2 := hid (HX1.out.gr (hg2.trans hgl))
  have HY2 := hid (hv.gr hgl)
  have HG2 := hid (HG1.out.trans (hg2.trans hgl))
  have f0 : W2.cell? ⟨w2.heap.size, 0, none⟩ = some (.bool false) := bl.c 0 rfl
  have f1 : W2.cell? ⟨w2.heap.size, 1, none⟩ = some (.slice A2 l2 d2) := bl.c 1 rfl
  have e0 := Gr.cell (hg2.trans hgl) e0
  have e1 := Gr.cell (hg2.trans hgl) e1
  have HL2 : Hid (w1.heap.size < w2.heap.size) := Nat.lt_of_lt_of_le HLB1.out hg2.size
  have HLB2 := hid bl.lt
  have HE0 := hid e0
  have HE1 := hid e1
  have HF0 := hid f0
  have HF1 := hid f1
  clear hv hg2 hgl bl c10 c11
  go_wp2_with fail
  refine (HDM.out W2 _ _ HX2.out.magd.an HY2.out.magd.an).mono ?_
  rintro e w3 ⟨u, v, rfl, ⟨hu, hv⟩, hg3⟩
  have HQ3 := hid hu
  have HR3 := hid hv
  have HX3 := hid (HX2.out.gr hg3)
  have HY3 := hid (HY2.out.gr hg3)
  have HG3 := hid (HG2.out.trans hg3)
  have HD3 := hid hg3
  have e0 := Gr.cell hg3 e0
  have e1 := Gr.cell hg3 e1
  have f0 := Gr.cell hg3 f0
  have f1 := Gr.cell hg3 f1
  have HL3 : Hid (w2.heap.size < w3.heap.size) := Nat.lt_of_lt_of_le HLB2.out hg3.size
  clear hu hv hg3
  go_wp2_with fail
  refine (xzmake_c w3 true _ q L HQ3.out.an (by have := HL.out; omega)).mono ?_
  rintro e w4 ⟨v4, rfl, hv4, hg4⟩
  obtain ⟨A4, l4, d4, rfl, hv4⟩ := hv4.form
  obtain ⟨s4, hs⟩ : ∃ y0, y0 = decide (sgnd true q < 0) := ⟨_, rfl⟩
  rw [← hs] at hv4 ⊢
  clear hs
  obtain ⟨W4, hW⟩ : ∃ V, V = w4.alloc (.cells #[.bool s4, .slice A4 l4 d4] 51) := ⟨_, rfl⟩
  go_upto_region 7 with (fail)
  obtain ⟨hgl, bl⟩ := al1 w4 #[.bool s4, .slice A4 l4 d4] 51
  rw [← hW] at hgl bl ⊢
  clear hW
  have HQ4 := hid (hv4.gr hgl)
  have HR4 := hid (HR3.out.gr (hg4.trans hgl))
  have HX4 := hid (HX3.out.gr (hg4.trans hgl))
  have HY4 := hid (HY3.out.gr (hg4.trans hgl))
  have HG4 := hid (HG3.out.trans (hg4.trans hgl))
  have HD4 := hid (HD3.out.trans (hg4.trans hgl))
  have HB4 := hid bl
  have e0 := Gr.cell (hg4.trans hgl) e0
  have e1 := Gr.cell (hg4.trans hgl) e1
  have f0 := Gr.cell (hg4.trans hgl) f0
  have f1 := Gr.cell (hg4.trans hgl) f1
  have q0 : W4.cell? ⟨w4.heap.size, 0, none⟩ = some (.bool s4) := bl.c 0 rfl
  have q1 : W4.cell? ⟨w4.heap.size, 1, none⟩ = some (.slice A4 l4 d4) := bl.c 1 rfl
  have HL4 : Hid (w3.heap.size ≤ w4.heap.size) := hg4.size
  have HG34 := hid (HG3.out.trans hg4)
  clear hv4 hg4 hgl bl
  have z1 : w.heap.size + 1 + 1 + 1 < w1.heap.size := Nat.lt_of_lt_of_le HS.out HL1.out
  have z2 := HL2.out
  have z3 := HL3.out
  have z4 := HL4.out
  obtain ⟨lr, hlr⟩ : ∃ l, l = (limbs r).length := ⟨_, rfl⟩
  have hlr0 : lr = 0 ↔ r = 0 := by
    rw [hlr]
    constructor
    · intro h
      have := limbs_nil.1 (List.eq_nil_of_length_eq_zero h); omega
    · intro h; rw [h, limbs_zero]; rfl
  have HLR := hid hlr
  have HLR0 := hid hlr0
  clear hlr hlr0
  have hdf : decide (x < 0) ≠ decide (y < 0) := by rw [← HS1.out, ← HS2.out]; decide
  have HDF := hid hdf
  clear hdf
  go_wp2_with fail
  refine (xnorm_c W4 _ r L HR4.out.an (by have := HL.out; omega)).mono ?_
  rintro e w5 ⟨v5, rfl, ⟨A5, c5, rfl, _, _, _⟩, hg5⟩
  rw [← HLR.out]
  have HQ5 := hid (HQ4.out.gr hg5)
  have HX5 := hid (HX4.out.gr hg5)
  have HY5 := hid (HY4.out.gr hg5)
  have HB5 := hid (HB4.out.gr hg5)
  have HG5 := hid (HG4.out.trans hg5)
  have HD5 := hid (HD4.out.trans hg5)
  have e0 := Gr.cell hg5 e0
  have e1 := Gr.cell hg5 e1
  have f0 := Gr.cell hg5 f0
  have f1 := Gr.cell hg5 f1
  have q0 := Gr.cell hg5 q0
  have q1 := Gr.cell hg5 q1
  have HL5 : Hid (w4.heap.size < w5.heap.size) := HB5.out.lt
  clear hg5
  by_cases hr0 : lr = 0
  · have HQE : Hid (VZ w5 w3.heap.size (.agg #[.bool s4, .slice A4 l4 d4]) Q (L + 1)) := by
      have h : Q = -(q : Int) := HF.out.2.1 HDF.out (HLR0.out.1 hr0)
      rw [h]
      exact HQ5.out.le (by omega)
    have hlt : ¬ (0 : Int) < lr := by omega
    clear hr0
    go_upto_region 9 with (fail)
    go_region_held3 (fun V => V.cell? ⟨w1.heap.size, 0, none⟩ = some (.bool true) ∧ V.cell? ⟨w1.heap.size, 1, none⟩ = some (.slice A1 l1 d1) ∧ V.cell? ⟨w2.heap.size, 0, none⟩ = some (.bool false) ∧ V.cell? ⟨w2.heap.size, 1, none⟩ = some (.slice A2 l2 d2) ∧ V.cell? ⟨w4.heap.size, 0, none⟩ = some (.bool s4) ∧ V.cell? ⟨w4.heap.size, 1, none⟩ = some (.slice A4 l4 d4))
      (first
        | exact ⟨e0, e1, f0, f1, q0, q1⟩
        | with_reducible exact ⟨Gr.cell HM8.out e0, Gr.cell HM8.out e1, Gr.cell HM8.out f0, Gr.cell HM8.out f1, Gr.cell HM8.out q0, Gr.cell HM8.out q1⟩
        | with_reducible exact ⟨Gr.cell HG9.out e0, Gr.cell HG9.out e1, Gr.cell HG9.out f0, Gr.cell HG9.out f1, Gr.cell HG9.out q0, Gr.cell HG9.out q1⟩
        | with_reducible exact ⟨set2 (by dsimp only; omega) (Gr.cell HG9.out e0), set2 (by dsimp only; omega) (Gr.cell HG9.out e1), set2 (by dsimp only; omega) (Gr.cell HG9.out f0), set2 (by dsimp only; omega) (Gr.cell HG9.out f1), set2 (by dsimp only; omega) (Gr.cell HG9.out q0), set2 (by dsimp only; omega) (Gr.cell HG9.out q1)⟩
        | with_reducible exact ⟨set2 (by dsimp only; omega) (set2 (by dsimp only; omega) (Gr.cell HG9.out e0)), set2 (by dsimp only; omega) (set2 (by dsimp only; omega) (Gr.cell HG9.out e1)), set2 (by dsimp only; omega) (set2 (by dsimp only; omega) (Gr.cell HG9.out f0)), set2 (by dsimp only; omega) (set2 (by dsimp only; omega) (Gr.cell HG9.out f1)), set2 (by dsimp only; omega) (set2 (by dsimp only; omega) (Gr.cell HG9.out q0)), set2 (by dsimp only; omega) (set2 (by dsimp only; omega) (Gr.cell HG9.out q1))⟩)
      (first
        | (go_at_call 75; refine (HSU.out _ _ _ ((HX5.out.az.le (by omega)).gr HM8.out) HV8.out.az).mono ?_; rintro e w9 ⟨v9, rfl, hv9, hg9⟩; obtain ⟨A9, l9, d9, rfl, hv9⟩ := hv9.form; obtain ⟨s9, hs⟩ : ∃ y0, y0 = decide (Rm < 0) := ⟨_, rfl⟩; rw [← hs] at hv9 ⊢; clear hs; have HG9 := hid (HM8.out.trans hg9); have HV9 := hid (hv9.base (b' := W.heap.size) (Nat.le_trans HG5.out.size HM8.out.size)); have HGA := hid (HG5.out.trans HG9.out); have rc00 : w9.cell? ⟨w.heap.size + 1 + 1, 0, none⟩ = some (.bool false) := (HB0.out.gr HGA.out).c 0 rfl; have rf00 : w9.frozen? ⟨w.heap.size + 1 + 1, 0, none⟩ = false := (HB0.out.gr HGA.out).free 0; have rc01 : w9.cell? ⟨w.heap.size + 1 + 1, 1, none⟩ = some (.slice none 0 0) := (HB0.out.gr HGA.out).c 1 rfl; have rf01 : w9.frozen? ⟨w.heap.size + 1 + 1, 1, none⟩ = false := (HB0.out.gr HGA.out).free 1; have rl0 : w.heap.size + 1 + 1 < w9.heap.size := (HB0.out.gr HGA.out).lt; have rc10 : w9.cell? ⟨w.heap.size + 1 + 1 + 1, 0, none⟩ = some (.bool false) := (HB1.out.gr HGA.out).c 0 rfl; have rf10 : w9.frozen? ⟨w.heap.size + 1 + 1 + 1, 0, none⟩ = false := (HB1.out.gr HGA.out).free 0; have rc11 : w9.cell? ⟨w.heap.size + 1 + 1 + 1, 1, none⟩ = some (.slice none 0 0) := (HB1.out.gr HGA.out).c 1 rfl; have rf11 : w9.frozen? ⟨w.heap.size + 1 + 1 + 1, 1, none⟩ = false := (HB1.out.gr HGA.out).free 1; have rl1 : w.heap.size + 1 + 1 + 1 < w9.heap.size := (HB1.out.gr HGA.out).lt; clear hv9 hg9)
        | (go_at_call 76; refine (HMU.out _ _ _ (HY5.out.az.gr ((Gr.refl w5).drew)) (HQE.out.az.gr ((Gr.refl w5).drew))).mono ?_; rintro e w8 ⟨v8, rfl, hv8, hg8⟩; have HV8 := hid hv8; have HM8 := hid (((Gr.refl w5).drew).trans hg8); clear hv8 hg8))
    go_wp2
    refine int2_end_b rfl rfl rfl rfl (HB0.out.gr HGA.out) (HB1.out.gr HGA.out) (by omega) ?_
    intro V1 V hV1 hV
    have ll0 := HB0.out.lt
    have ll1 := HB1.out.lt
    have a3 := ((HG.out.trans HGA.out).ex hV1 (by omega)).ex hV (by omega)
    have p1 := ((((HQE.out.gr HG9.out).base (b' := W.heap.size) (by have := HG3.out.size; have := HG34.out.size; first | omega | (have := HL5.out; omega))).exb hV1 ll0).exb hV ll1).base (b' := w.heap.size) (by omega)
    have p2 := ((HV9.out.exb hV1 ll0).exb hV ll1).base (b' := w.heap.size) (by omega)
    exact ⟨_, _, rfl, ⟨p1, p2⟩, a3⟩
  · have hQ1 : -(q : Int) - 1 = Q := (HF.out.2.2 HDF.out (fun h => hr0 (HLR0.out.2 h))).symm
    have HQ1 := hid hQ1
    have hlt : (0 : Int) < lr := by omega
    have HSQ : Hid (∀ (V : World) (u v : Value), AZ V u (-(q : Int)) L → AZ V v 1 L → Calls Tryd.prog 75 #[u, v] V (Ret V fun v w' => VZ w' V.heap.size v Q (L + 1))) := fun V u v h3 h4 => by
      have h := xzsub_c V u v (-(q : Int)) 1 L h3 h4 (by have := HL.out; omega)
      rw [HQ1.out] at h
      exact h
    have HZ5 : Hid (AZ w5 (.agg #[.bool s4, .slice A4 l4 d4]) (-(q : Int)) L) := HQ5.out.az
    clear hr0 hQ1
    go_upto_region 8 with (fail)
    go_region_with
      (first
        | (go_at_call 75; refine (HSQ.out _ _ _ (HZ5.out.gr HG6.out) (HV6.out.az.le HLL.out)).mono ?_; rintro e7 w7 ⟨v7, rfl, hv7, hg7⟩; obtain ⟨A7, l7, d7, rfl, hv7⟩ := hv7.form; obtain ⟨s7, hs⟩ : ∃ y0, y0 = decide (Q < 0) := ⟨_, rfl⟩; rw [← hs] at hv7 ⊢; clear hs; have HG7 := hid (HG6.out.trans hg7); have HB7 := hid (HB5.out.gr HG7.out); have HV7 := hid (hv7.base (b' := w5.heap.size) HG6.out.size); have z0 : w7.cell? ⟨w4.heap.size, 0, none⟩ = some (.bool s4) := HB7.out.c 0 rfl; have p0 : w7.frozen? ⟨w4.heap.size, 0, none⟩ = false := HB7.out.free 0; have z1' : w7.cell? ⟨w4.heap.size, 1, none⟩ = some (.slice A4 l4 d4) := HB7.out.c 1 rfl; have p1 : w7.frozen? ⟨w4.heap.size, 1, none⟩ = false := HB7.out.free 1; have p3 : w4.heap.size < w7.heap.size := HB7.out.lt; clear hg7 hv7)
        | (go_at_call 62; refine (HO1.out _).mono ?_; rintro e6 w6 ⟨v6, rfl, hv6, hg6⟩; have HV6 := hid hv6; have HG6 := hid (((Gr.refl w5).drew).trans hg6); have q0 := Gr.cell HG6.out q0; have q1 := Gr.cell HG6.out q1; clear hv6 hg6))
    all_goals
      obtain ⟨W8, hW⟩ : ∃ V, V = (w7.setCell ⟨w4.heap.size, 0, none⟩ (.bool s7)).setCell ⟨w4.heap.size, 1, none⟩ (.slice A7 l7 d7) := ⟨_, rfl⟩
      go_upto_region 9 with (fail)
      have hx : Ex w4.heap.size w7 W8 := by rw [hW]; exact ((Ex.refl _ w7).setCell 0 _).setCell 1 _
      have hbn : Blk W8 w4.heap.size #[.bool s7, .slice A7 l7 d7] 51 := by rw [hW]; exact (HB7.out.set 0 _).set 1 _
      rw [← hW]
      clear hW z0 p0 z1' p1 p3
      have HQE : Hid (VZ W8 w5.heap.size (.agg #[.bool s7, .slice A7 l7 d7]) Q (L + 1)) := HV7.out.exb hx HL5.out
      have HD8 := hid ((HD5.out.trans HG7.out).ex hx (by have := HLB2.out; have := HD3.out.size; have := HL4.out; omega))
      have HX8 := hid (HX2.out.gr HD8.out)
      have HY8 := hid (HY2.out.gr HD8.out)
      have HG8z := hid (HG2.out.trans HD8.out)
      have e0 := Gr.cell HD8.out HE0.out
      have e1 := Gr.cell HD8.out HE1.out
      have f0 := Gr.cell HD8.out HF0.out
      have f1 := Gr.cell HD8.out HF1.out
      have q0 : W8.cell? ⟨w4.heap.size, 0, none⟩ = some (.bool s7) := hbn.c 0 rfl
      have q1 : W8.cell? ⟨w4.heap.size, 1, none⟩ = some (.slice A7 l7 d7) := hbn.c 1 rfl
      clear hx hbn
      go_region_held3 (fun V => V.cell? ⟨w1.heap.size, 0, none⟩ = some (.bool true) ∧ V.cell? ⟨w1.heap.size, 1, none⟩ = some (.slice A1 l1 d1) ∧ V.cell? ⟨w2.heap.size, 0, none⟩ = some (.bool false) ∧ V.cell? ⟨w2.heap.size, 1, none⟩ = some (.slice A2 l2 d2) ∧ V.cell? ⟨w4.heap.size, 0, none⟩ = some (.bool s7) ∧ V.cell? ⟨w4.heap.size, 1, none⟩ = some (.slice A7 l7 d7))
        (first
          | exact ⟨e0, e1, f0, f1, q0, q1⟩
          | with_reducible exact ⟨Gr.cell HM8.out e0, Gr.cell HM8.out e1, Gr.cell HM8.out f0, Gr.cell HM8.out f1, Gr.cell HM8.out q0, Gr.cell HM8.out q1⟩
          | with_reducible exact ⟨Gr.cell HG9.out e0, Gr.cell HG9.out e1, Gr.cell HG9.out f0, Gr.cell HG9.out f1, Gr.cell HG9.out q0, Gr.cell HG9.out q1⟩
          | with_reducible exact ⟨set2 (by dsimp only; omega) (Gr.cell HG9.out e0), set2 (by dsimp only; omega) (Gr.cell HG9.out e1), set2 (by dsimp only; omega) (Gr.cell HG9.out f0), set2 (by dsimp only; omega) (Gr.cell HG9.out f1), set2 (by dsimp only; omega) (Gr.cell HG9.out q0), set2 (by dsimp only; omega) (Gr.cell HG9.out q1)⟩
          | with_reducible exact ⟨set2 (by dsimp only; omega) (set2 (by dsimp only; omega) (Gr.cell HG9.out e0)), set2 (by dsimp only; omega) (set2 (by dsimp only; omega) (Gr.cell HG9.out e1)), set2 (by dsimp only; omega) (set2 (by dsimp only; omega) (Gr.cell HG9.out f0)), set2 (by dsimp only; omega) (set2 (by dsimp only; omega) (Gr.cell HG9.out f1)), set2 (by dsimp only; omega) (set2 (by dsimp only; omega) (Gr.cell HG9.out q0)), set2 (by dsimp only; omega) (set2 (by dsimp only; omega) (Gr.cell HG9.out q1))⟩)
        (first
          | (go_at_call 75; refine (HSU.out _ _ _ ((HX8.out.az.le (by omega)).gr HM8.out) HV8.out.az).mono ?_; rintro e w9 ⟨v9, rfl, hv9, hg9⟩; obtain ⟨A9, l9, d9, rfl, hv9⟩ := hv9.form; obtain ⟨s9, hs⟩ : ∃ y0, y0 = decide (Rm < 0) := ⟨_, rfl⟩; rw [← hs] at hv9 ⊢; clear hs; have HG9 := hid (HM8.out.trans hg9); have HV9 := hid (hv9.base (b' := W.heap.size) (Nat.le_trans HG8z.out.size HM8.out.size)); have HGA := hid (HG8z.out.trans HG9.out); have rc00 : w9.cell? ⟨w.heap.size + 1 + 1, 0, none⟩ = some (.bool false) := (HB0.out.gr HGA.out).c 0 rfl; have rf00 : w9.frozen? ⟨w.heap.size + 1 + 1, 0, none⟩ = false := (HB0.out.gr HGA.out).free 0; have rc01 : w9.cell? ⟨w.heap.size + 1 + 1, 1, none⟩ = some (.slice none 0 0) := (HB0.out.gr HGA.out).c 1 rfl; have rf01 : w9.frozen? ⟨w.heap.size + 1 + 1, 1, none⟩ = false := (HB0.out.gr HGA.out).free 1; have rl0 : w.heap.size + 1 + 1 < w9.heap.size := (HB0.out.gr HGA.out).lt; have rc10 : w9.cell? ⟨w.heap.size + 1 + 1 + 1, 0, none⟩ = some (.bool false) := (HB1.out.gr HGA.out).c 0 rfl; have rf10 : w9.frozen? ⟨w.heap.size + 1 + 1 + 1, 0, none⟩ = false := (HB1.out.gr HGA.out).free 0; have rc11 : w9.cell? ⟨w.heap.size + 1 + 1 + 1, 1, none⟩ = some (.slice none 0 0) := (HB1.out.gr HGA.out).c 1 rfl; have rf11 : w9.frozen? ⟨w.heap.size + 1 + 1 + 1, 1, none⟩ = false := (HB1.out.gr HGA.out).free 1; have rl1 : w.heap.size + 1 + 1 + 1 < w9.heap.size := (HB1.out.gr HGA.out).lt; clear hv9 hg9)
          | (go_at_call 76; refine (HMU.out _ _ _ (HY8.out.az.gr ((Gr.refl W8).drew)) (HQE.out.az.gr ((Gr.refl W8).drew))).mono ?_; rintro e w8 ⟨v8, rfl, hv8, hg8⟩; have HV8 := hid hv8; have HM8 := hid (((Gr.refl W8).drew).trans hg8); clear hv8 hg8))
      go_wp2
      refine int2_end_b rfl rfl rfl rfl (HB0.out.gr HGA.out) (HB1.out.gr HGA.out) (by omega) ?_
      intro V1 V hV1 hV
      have ll0 := HB0.out.lt
      have ll1 := HB1.out.lt
      have a3 := ((HG.out.trans HGA.out).ex hV1 (by omega)).ex hV (by omega)
      have p1 := ((((HQE.out.gr HG9.out).base (b' := W.heap.size) (by have := HG3.out.size; have := HG34.out.size; first | omega | (have := HL5.out; omega))).exb hV1 ll0).exb hV ll1).base (b' := w.heap.size) (by omega)
      have p2 := ((HV9.out.exb hV1 ll0).exb hV ll1).base (b' := w.heap.size) (by omega)
      exact ⟨_, _, rfl, ⟨p1, p2⟩, a3⟩
set_option maxRecDepth 100000 in
set_option maxHeartbeats 16000000 in
theorem xzdivmod_d (w : World) (v1 v2 : Value) (x y : Int) (L : Nat) (h1 : AZ w v1 x L) (h2 : AZ w v2 y L) (hL2 : 2 ≤ L) (hL : L ≤ 34359738368) (h0 : y ≠ 0) (hsx : decide (x < 0) = true) (hsy : decide (y < 0) = true) :
    Calls Tryd.prog 77 #[v1, v2] w (RetVB w true fun u v w' => VZ w' w.heap.size u (x.fdiv y) (L + 1) ∧ VZ w' w.heap.size v (x.fmod y) (2 * L + 2)) := by
  have HSX := hid hsx
  have HSY := hid hsy
  clear hsx hsy
  have HX := hid h1
  have HY := hid h2
  obtain ⟨neg1, m1, n1, rfl, hm1, hx⟩ := h1
  obtain ⟨neg2, m2, n2, rfl, hm2, hy⟩ := h2
  clear hm1 hx n1 hm2 hy n2
  have HNX : Hid (∀ V : World, Gr w V → Calls Tryd.prog 65 #[.agg #[.bool neg1, m1]] V (Ret V fun v w' => VZ w' V.heap.size v x L)) := fun V hV => xznorm_c V _ x L (HX.out.gr hV) (by omega)
  have HNY : Hid (∀ V : World, Gr w V → Calls Tryd.prog 65 #[.agg #[.bool neg2, m2]] V (Ret V fun v w' => VZ w' V.heap.size v y L)) := fun V hV => xznorm_c V _ y L (HY.out.gr hV) (by omega)
  have HL := hid hL
  obtain ⟨q, hq⟩ : ∃ q, q = x.natAbs / y.natAbs := ⟨_, rfl⟩
  obtain ⟨r, hr⟩ : ∃ r, r = x.natAbs % y.natAbs := ⟨_, rfl⟩
  obtain ⟨Q, hQ⟩ : ∃ Q, Q = x.fdiv y := ⟨_, rfl⟩
  have hyp : 0 < y.natAbs := by omega
  have hf := fdivZ (x := x) h0
  rw [← hq, ← hr, ← hQ] at hf
  have hR : x - y * Q = x.fmod y := by rw [hQ, ← Int.fmod_def]
  rw [← hQ, ← hR]
  have HDM : Hid (∀ (V : World) (u v : Value), AN V u x.natAbs L → AN V v y.natAbs L → Calls Tryd.prog 40 #[u, v] V (RetVB V true fun u v w' => VN w' V.heap.size u q L ∧ VN w' V.heap.size v r L)) := fun V u v h3 h4 => by
    rw [hq, hr]; exact xdivmod_c V u v _ _ L h3 h4 (by omega) hyp
  have HF := hid hf
  have HLL := hid hL2
  have HMU : Hid (∀ (V : World) (u v : Value), AZ V u y L → AZ V v Q (L + 1) → Calls Tryd.prog 76 #[u, v] V (Ret V fun v w' => VZ w' V.heap.size v (y * Q) (2 * L + 1))) := fun V u v h3 h4 => by
    have h := xzmul_c V u v y Q L (L + 1) h3 h4 (by omega) (by omega)
    rw [show L + (L + 1) = 2 * L + 1 by omega] at h
    exact h
  have HSU : Hid (∀ (V : World) (u v : Value), AZ V u x (2 * L + 1) → AZ V v (y * Q) (2 * L + 1) → Calls Tryd.prog 75 #[u, v] V (Ret V fun v w' => VZ w' V.heap.size v (x - y * Q) (2 * L + 2))) := fun V u v h3 h4 => xzsub_c V u v x (y * Q) (2 * L + 1) h3 h4 (by omega)
  have HO1 : Hid (∀ V : World, Calls Tryd.prog 62 #[.int .i64 1] V (Ret V fun v w' => VZ w' V.heap.size v 1 2)) := fun V => xzof_c V 1 (by decide) (by decide)
  obtain ⟨Rm, hRm⟩ : ∃ R, R = x - y * Q := ⟨_, rfl⟩
  rw [← hRm] at HSU ⊢
  clear hL h0 hq hr hQ hyp hf hR hL2 hRm
  go_enter Tryd.func77, Tryd.ntmps77
  go_upto_region 1 with (fail)
  obtain ⟨W, hW⟩ : ∃ W, W = (((w.alloc (.cells #[.bool neg1, m1] 51)).alloc (.cells #[.bool neg2, m2] 51)).alloc (.cells #[.bool false, .slice none 0 0] 51)).alloc (.cells #[.bool false, .slice none 0 0] 51) := ⟨_, rfl⟩
  obtain ⟨hg, b0, b1, b2, b3⟩ := al4 w #[.bool neg1, m1] #[.bool neg2, m2] #[.bool false, .slice none 0 0] #[.bool false, .slice none 0 0] 51 51 51 51
  rw [← hW] at hg b0 b1 b2 b3 ⊢
  clear hW
  have c00 : W.cell? ⟨w.heap.size, 0, none⟩ = some (.bool neg1) := b0.c 0 rfl
  have c01 : W.cell? ⟨w.heap.size, 1, none⟩ = some m1 := b0.c 1 rfl
  have c10 : W.cell? ⟨w.heap.size + 1, 0, none⟩ = some (.bool neg2) := b1.c 0 rfl
  have c11 : W.cell? ⟨w.heap.size + 1, 1, none⟩ = some m2 := b1.c 1 rfl
  have HB0 := hid b2
  have HB1 := hid b3
  have HG := hid hg
  have HS : Hid (w.heap.size + 1 + 1 + 1 < W.heap.size) := b3.lt
  clear hg b0 b1 b2 b3
  go_wp2_with fail
  refine (HNX.out W HG.out).mono ?_
  rintro e w1 ⟨v, rfl, hv, hg1⟩
  obtain ⟨A1, l1, d1, rfl, hv⟩ := hv.form
  obtain ⟨s1, hs⟩ : ∃ b, b = decide (x < 0) := ⟨_, rfl⟩
  rw [← hs] at hv ⊢
  have hs1 : s1 = true := hs.trans HSX.out
  have HS1 := hid hs
  clear hs
  subst hs1
  obtain ⟨W1, hW⟩ : ∃ V, V = w1.alloc (.cells #[.bool true, .slice A1 l1 d1] 51) := ⟨_, rfl⟩
  go_upto_region 2 with (fail)
  obtain ⟨hgl, bl⟩ := al1 w1 #[.bool true, .slice A1 l1 d1] 51
  rw [← hW] at hgl bl ⊢
  clear hW
  have HX1 := hid (hv.gr hgl)
  have HG1 := hid (hg1.trans hgl)
  have e0 : W1.cell? ⟨w1.heap.size, 0, none⟩ = some (.bool true) := bl.c 0 rfl
  have e1 : W1.cell? ⟨w1.heap.size, 1, none⟩ = some (.slice A1 l1 d1) := bl.c 1 rfl
  have c10 := Gr.cell HG1.out c10
  have c11 := Gr.cell HG1.out c11
  have HL1 : Hid (W.heap.size ≤ w1.heap.size) := hg1.size
  have HLB1 := hid bl.lt
  clear hv hg1 hgl bl c00 c01
  go_wp2_with fail
  refine (HNY.out W1 (HG.out.trans HG1.out)).mono ?_
  rintro e w2 ⟨v, rfl, hv, hg2⟩
  obtain ⟨A2, l2, d2, rfl, hv⟩ := hv.form
  obtain ⟨s2, hs⟩ : ∃ b, b = decide (y < 0) := ⟨_, rfl⟩
  rw [← hs] at hv ⊢
  have hs2 : s2 = true := hs.trans HSY.out
  have HS2 := hid hs
  clear hs
  subst hs2
  obtain ⟨W2, hW⟩ : ∃ V, V = w2.alloc (.cells #[.bool true, .slice A2 l2 d2] 51) := ⟨_, rfl⟩
  go_upto_region 3 with (fail)
  obtain ⟨hgl, bl⟩ := al1 w2 #[.bool true, .slice A2 l2 d2] 51
  rw [← hW] at hgl bl ⊢
  clear hW
  have HX2 := hid (HX1.out.gr (hg2.trans hgl))
  have HY2 := hid (hv.gr hgl)
  have HG2 := hid (HG1.out.trans (hg2.trans hgl))
  have f0 : W2.cell? ⟨w2.heap.size, 0, none⟩ = some (.bool true) := bl.c 0 rfl
  have f1 : W2.cell? ⟨w2.heap.size, 1, none⟩ = some (.slice A2 l2 d2) := bl.c 1 rfl
  have e0 := Gr.cell (hg2.trans hgl) e0
  have e1 := Gr.cell (hg2.trans hgl) e1
  have HL2 : Hid (w1.heap.size < w2.heap.size) := Nat.lt_of_lt_of_le HLB1.out hg2.size
  have HLB2 := hid bl.lt
  have HE0 := hid e0
  have HE1 := hid e1
  have HF0 := hid f0
  have HF1 := hid f1
  clear hv hg2 hgl bl c10 c11
  go_wp2_with fail
  refine (HDM.out W2 _ _ HX2.out.magd.an HY2.out.magd.an).mono ?_
  rintro e w3 ⟨u, v, rfl, ⟨hu, hv⟩, hg3⟩
  have HQ3 := hid hu
  have HR3 := hid hv
  have HX3 := hid (HX2.out.gr hg3)
  have HY3 := hid (HY2.out.gr hg3)
  have HG3 := hid (HG2.out.trans hg3)
  have HD3 := hid hg3
  have e0 := Gr.cell hg3 e0
  have e1 := Gr.cell hg3 e1
  have f0 := Gr.cell hg3 f0
  have f1 := Gr.cell hg3 f1
  have HL3 : Hid (w2.heap.size < w3.heap.size) := Nat.lt_of_lt_of_le HLB2.out hg3.size
  clear hu hv hg3
  go_wp2_with fail
  refine (xzmake_c w3 false _ q L HQ3.out.an (by have := HL.out; omega)).mono ?_
  rintro e w4 ⟨v4, rfl, hv4, hg4⟩
  obtain ⟨A4, l4, d4, rfl, hv4⟩ := hv4.form
  obtain ⟨s4, hs⟩ : ∃ y0, y0 = decide (sgnd false q < 0) := ⟨_, rfl⟩
  rw [← hs] at hv4 ⊢
  clear hs
  obtain ⟨W4, hW⟩ : ∃ V, V = w4.alloc (.cells #[.bool s4, .slice A4 l4 d4] 51) := ⟨_, rfl⟩
  go_upto_region 7 with (fail)
  obtain ⟨hgl, bl⟩ := al1 w4 #[.bool s4, .slice A4 l4 d4] 51
  rw [← hW] at hgl bl ⊢
  clear hW
  have HQ4 := hid (hv4.gr hgl)
  have HR4 := hid (HR3.out.gr (hg4.trans hgl))
  have HX4 := hid (HX3.out.gr (hg4.trans hgl))
  have HY4 := hid (HY3.out.gr (hg4.trans hgl))
  have HG4 := hid (HG3.out.trans (hg4.trans hgl))
  have HD4 := hid (HD3.out.trans (hg4.trans hgl))
  have HB4 := hid bl
  have e0 := Gr.cell (hg4.trans hgl) e0
  have e1 := Gr.cell (hg4.trans hgl) e1
  have f0 := Gr.cell (hg4.trans hgl) f0
  have f1 := Gr.cell (hg4.trans hgl) f1
  have q0 : W4.cell? ⟨w4.heap.size, 0, none⟩ = some (.bool s4) := bl.c 0 rfl
  have q1 : W4.cell? ⟨w4.heap.size, 1, none⟩ = some (.slice A4 l4 d4) := bl.c 1 rfl
  have HL4 : Hid (w3.heap.size ≤ w4.heap.size) := hg4.size
  have HG34 := hid (HG3.out.trans hg4)
  clear hv4 hg4 hgl bl
  have HQE : Hid (VZ W4 w3.heap.size (.agg #[.bool s4, .slice A4 l4 d4]) Q (L + 1)) := by
    have h : Q = (q : Int) := HF.out.1 (by rw [← HS1.out, ← HS2.out])
    rw [h]
    exact HQ4.out.le (by omega)
  have z1 : w.heap.size + 1 + 1 + 1 < w1.heap.size := Nat.lt_of_lt_of_le HS.out HL1.out
  have z2 := HL2.out
  have z3 := HL3.out
  have z4 := HL4.out
  go_upto_region 9 with (fail)
  go_region_held3 (fun V => V.cell? ⟨w1.heap.size, 0, none⟩ = some (.bool true) ∧ V.cell? ⟨w1.heap.size, 1, none⟩ = some (.slice A1 l1 d1) ∧ V.cell? ⟨w2.heap.size, 0, none⟩ = some (.bool true) ∧ V.cell? ⟨w2.heap.size, 1, none⟩ = some (.slice A2 l2 d2) ∧ V.cell? ⟨w4.heap.size, 0, none⟩ = some (.bool s4) ∧ V.cell? ⟨w4.heap.size, 1, none⟩ = some (.slice A4 l4 d4))
    (first
      | exact ⟨e0, e1, f0, f1, q0, q1⟩
      | with_reducible exact ⟨Gr.cell HM8.out e0, Gr.cell HM8.out e1, Gr.cell HM8.out f0, Gr.cell HM8.out f1, Gr.cell HM8.out q0, Gr.cell HM8.out q1⟩
      | with_reducible exact ⟨Gr.cell HG9.out e0, Gr.cell HG9.out e1, Gr.cell HG9.out f0, Gr.cell HG9.out f1, Gr.cell HG9.out q0, Gr.cell HG9.out q1⟩
      | with_reducible exact ⟨set2 (by dsimp only; omega) (Gr.cell HG9.out e0), set2 (by dsimp only; omega) (Gr.cell HG9.out e1), set2 (by dsimp only; omega) (Gr.cell HG9.out f0), set2 (by dsimp only; omega) (Gr.cell HG9.out f1), set2 (by dsimp only; omega) (Gr.cell HG9.out q0), set2 (by dsimp only; omega) (Gr.cell HG9.out q1)⟩
      | with_reducible exact ⟨set2 (by dsimp only; omega) (set2 (by dsimp only; omega) (Gr.cell HG9.out e0)), set2 (by dsimp only; omega) (set2 (by dsimp only; omega) (Gr.cell HG9.out e1)), set2 (by dsimp only; omega) (set2 (by dsimp only; omega) (Gr.cell HG9.out f0)), set2 (by dsimp only; omega) (set2 (by dsimp only; omega) (Gr.cell HG9.out f1)), set2 (by dsimp only; omega) (set2 (by dsimp only; omega) (Gr.cell HG9.out q0)), set2 (by dsimp only; omega) (set2 (by dsimp only; omega) (Gr.cell HG9.out q1))⟩)
    (first
      | (go_at_call 75; refine (HSU.out _ _ _ ((HX4.out.az.le (by omega)).gr HM8.out) HV8.out.az).mono ?_; rintro e w9 ⟨v9, rfl, hv9, hg9⟩; obtain ⟨A9, l9, d9, rfl, hv9⟩ := hv9.form; obtain ⟨s9, hs⟩ : ∃ y0, y0 = decide (Rm < 0) := ⟨_, rfl⟩; rw [← hs] at hv9 ⊢; clear hs; have HG9 := hid (HM8.out.trans hg9); have HV9 := hid (hv9.base (b' := W.heap.size) (Nat.le_trans HG4.out.size HM8.out.size)); have HGA := hid (HG4.out.trans HG9.out); have rc00 : w9.cell? ⟨w.heap.size + 1 + 1, 0, none⟩ = some (.bool false) := (HB0.out.gr HGA.out).c 0 rfl; have rf00 : w9.frozen? ⟨w.heap.size + 1 + 1, 0, none⟩ = false := (HB0.out.gr HGA.out).free 0; have rc01 : w9.cell? ⟨w.heap.size + 1 + 1, 1, none⟩ = some (.slice none 0 0) := (HB0.out.gr HGA.out).c 1 rfl; have rf01 : w9.frozen? ⟨w.heap.size + 1 + 1, 1, none⟩ = false := (HB0.out.gr HGA.out).free 1; have rl0 : w.heap.size + 1 + 1 < w9.heap.size := (HB0.out.gr HGA.out).lt; have rc10 : w9.cell? ⟨w.heap.size + 1 + 1 + 1, 0, none⟩ = some (.bool false) := (HB1.out.gr HGA.out).c 0 rfl; have rf10 : w9.frozen? ⟨w.heap.size + 1 + 1 + 1, 0, none⟩ = false := (HB1.out.gr HGA.out).free 0; have rc11 : w9.cell? ⟨w.heap.size + 1 + 1 + 1, 1, none⟩ = some (.slice none 0 0) := (HB1.out.gr HGA.out).c 1 rfl; have rf11 : w9.frozen? ⟨w.heap.size + 1 + 1 + 1, 1, none⟩ = false := (HB1.out.gr HGA.out).free 1; have rl1 : w.heap.size + 1 + 1 + 1 < w9.heap.size := (HB1.out.gr HGA.out).lt; clear hv9 hg9)
      | (go_at_call 76; refine (HMU.out _ _ _ (HY4.out.az.gr ((Gr.refl W4).drew)) (HQE.out.az.gr ((Gr.refl W4).drew))).mono ?_; rintro e w8 ⟨v8, rfl, hv8, hg8⟩; have HV8 := hid hv8; have HM8 := hid (((Gr.refl W4).drew).trans hg8); clear hv8 hg8))
  go_wp2
  refine int2_end_b rfl rfl rfl rfl (HB0.out.gr HGA.out) (HB1.out.gr HGA.out) (by omega) ?_
  intro V1 V hV1 hV
  have ll0 := HB0.out.lt
  have ll1 := HB1.out.lt
  have a3 := ((HG.out.trans HGA.out).ex hV1 (by omega)).ex hV (by omega)
  have p1 := ((((HQE.out.gr HG9.out).base (b' := W.heap.size) (by have := HG3.out.size; have := HG34.out.size; first | omega | (have := HL5.out; omega))).exb hV1 ll0).exb hV ll1).base (b' := w.heap.size) (by omega)
  have p2 := ((HV9.out.exb hV1 ll0).exb hV ll1).base (b' := w.heap.size) (by omega)
  exact ⟨_, _, rfl, ⟨p1, p2⟩, a3⟩
theorem xzdivmod_c (w : World) (v1 v2 : Value) (x y : Int) (L : Nat) (h1 : AZ w v1 x L) (h2 : AZ w v2 y L) (hL2 : 2 ≤ L) (hL : L ≤ 34359738368) (h0 : y ≠ 0) :
    Calls Tryd.prog 77 #[v1, v2] w (RetVB w true fun u v w' => VZ w' w.heap.size u (x.fdiv y) (L + 1) ∧ VZ w' w.heap.size v (x.fmod y) (2 * L + 2)) := by
  by_cases hx : x < 0
  · by_cases hy : y < 0
    · exact xzdivmod_d w v1 v2 x y L h1 h2 hL2 hL h0 (decide_eq_true hx) (decide_eq_true hy)
    · exact xzdivmod_k w v1 v2 x y L h1 h2 hL2 hL h0 (decide_eq_true hx) (decide_eq_false hy)
  · by_cases hy : y < 0
    · exact xzdivmod_b w v1 v2 x y L h1 h2 hL2 hL h0 (decide_eq_false hx) (decide_eq_true hy)
    · exact xzdivmod_a w v1 v2 x y L h1 h2 hL2 hL h0 (decide_eq_false hx) (decide_eq_false hy)
end Go.Proofs.YtkbgdiejjabdmaaDoor
