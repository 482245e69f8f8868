/- The walk of the law RatioMakes. -/
import Derived.Test.YtkbgdiejjabdmaaLawB
import Derived.Test.YtkbgdiejjabdmaaRgE
import Derived.Test.YtkbgdiejjabdmaaBoxR
import Derived.Deep.Cut
namespace Go.Proofs.Ytkbgdiejjabdmaa
open Go.RowKit

set_option maxHeartbeats 8000000 in
theorem ratiomakes_law (W : World) {x y : Int} (hx0 : -9223372036854775808 ≤ x) (hx1 : x ≤ 9223372036854775807) (hy0 : -9223372036854775808 ≤ y) (hy1 : y ≤ 9223372036854775807) {s2 s3 : Bool} {A2 A3 : Option Addr} {l2 c2 n2 l3 c3 n3 : Nat} (hn2 : AN W (.slice A2 l2 c2) n2 l2) (hn3 : AN W (.slice A3 l3 c3) n3 l3) :
    Calls Try.prog 3 #[.int .i64 x, .int .i64 y, .agg #[.bool s2, .slice A2 l2 c2], .agg #[.bool s3, .slice A3 l3 c3]] W (Is W (.bool true)) := by
  by_cases hl2 : (40 : Int) < l2
  · clear hn2 hn3 hx0 hx1 hy0 hy1
    go_enter Try.func3, Try.ntmps3
    go_wp2
    go_ret
    exact ⟨rfl, (Gr.alloc _ _).trans (Gr.alloc _ _)⟩
  by_cases hl3 : (40 : Int) < l3
  · clear hn2 hn3 hx0 hx1 hy0 hy1
    go_enter Try.func3, Try.ntmps3
    go_wp2
    go_ret
    exact ⟨rfl, (Gr.alloc _ _).trans (Gr.alloc _ _)⟩
  obtain ⟨z2, hz2⟩ : ∃ z, z = sgnd s2 n2 := ⟨_, rfl⟩
  obtain ⟨z3, hz3⟩ : ∃ z, z = sgnd s3 n3 := ⟨_, rfl⟩
  have HZ2 : Hid (AZ W (.agg #[.bool s2, .slice A2 l2 c2]) z2 40) := ⟨s2, _, n2, rfl, hn2.le (by omega), hz2⟩
  have HZ3 : Hid (AZ W (.agg #[.bool s3, .slice A3 l3 c3]) z3 40) := ⟨s3, _, n3, rfl, hn3.le (by omega), hz3⟩
  obtain ⟨R, hR⟩ : ∃ R, R = Rat.divInt x y := ⟨_, rfl⟩
  obtain ⟨Q, hQ⟩ : ∃ R, R = Rat.divInt z2 z3 := ⟨_, rfl⟩
  obtain ⟨o1, ho1⟩ : ∃ o, o = decide (y ≠ 0) := ⟨_, rfl⟩
  obtain ⟨o2, ho2⟩ : ∃ o, o = decide (z3 ≠ 0) := ⟨_, rfl⟩
  have HF1 : Hid (∀ V : World, Calls Try.prog 10 #[.int .i64 x, .int .i64 y] V (RetB V o1 fun v w' => VQ w' V.heap.size v R 2)) := fun V => by
    rw [hR, ho1]; exact rof_c V x y hx0 hx1 hy0 hy1
  have HF2 : Hid (∀ V : World, Calls Try.prog 11 #[.int .i64 x, .int .i64 y] V (RetB V o1 fun v w' => VQ w' V.heap.size v R 2)) := fun V => by
    rw [hR, ho1]; exact xrof_c V x y hx0 hx1 hy0 hy1
  have HM1 : Hid (∀ (V : World) (a b : Value), AZ V a z2 40 → AZ V b z3 40 → Calls Try.prog 13 #[a, b] V (RetB V o2 fun v w' => VQ w' V.heap.size v Q 40)) := fun V a b h1 h2 => by
    rw [hQ, ho2]; exact rmake_c V a b z2 z3 40 h1 h2 (by decide) (by decide)
  have HM2 : Hid (∀ (V : World) (a b : Value), AZ V a z2 40 → AZ V b z3 40 → Calls Try.prog 14 #[a, b] V (RetB V o2 fun v w' => VQ w' V.heap.size v Q 40)) := fun V a b h1 h2 => by
    rw [hQ, ho2]; exact xrmake_c V a b z2 z3 40 h1 h2 (by decide) (by decide)
  have HS1 : Hid (∀ (V : World) (b1 b2 : Nat) (u v : Value), VQ V b1 u R 2 → VQ V b2 v R 2 → Calls Try.prog 12 #[u, v] V (Is V (.bool true))) := fun V b1 b2 u v h1 h2 => by
    have h := same_c V b1 b2 u v _ _ 2 h1 h2 (by decide)
    rw [decide_eq_true rfl] at h
    exact h
  have HS2 : Hid (∀ (V : World) (b1 b2 : Nat) (u v : Value), VQ V b1 u Q 40 → VQ V b2 v Q 40 → Calls Try.prog 12 #[u, v] V (Is V (.bool true))) := fun V b1 b2 u v h1 h2 => by
    have h := same_c V b1 b2 u v _ _ 40 h1 h2 (by decide)
    rw [decide_eq_true rfl] at h
    exact h
  clear hn2 hn3 hx0 hx1 hy0 hy1 hz2 hz3 hR hQ ho1 ho2 n2 n3
  go_enter Try.func3, Try.ntmps3
  go_upto_region 3 with (fail)
  obtain ⟨W0, hW⟩ : ∃ V, V = (W.alloc (.cells #[.bool s2, .slice A2 l2 c2] 25)).alloc (.cells #[.bool s3, .slice A3 l3 c3] 25) := ⟨_, rfl⟩
  obtain ⟨hg, b0, b1⟩ := al2 W #[.bool s2, .slice A2 l2 c2] #[.bool s3, .slice A3 l3 c3] 25 25
  rw [← hW] at hg b0 b1 ⊢
  clear hW
  have HG0 := hid hg
  have HB2 := hid b0
  have HB3 := hid b1
  have HBL3 := hid b1.lt
  clear hg b0 b1
  go_wp2_with fail
  refine (HF1.out W0).mono ?_
  rintro e w1 ⟨v1, rfl, hv, hg⟩
  obtain ⟨A8, l8, c8, B8, m8, e8, rfl, hv⟩ := hv.form
  obtain ⟨s8, hs⟩ : ∃ b, b = decide (R.num < 0) := ⟨_, rfl⟩
  rw [← hs] at hv ⊢
  clear hs
  go_upto_region 4 with (fail)
  obtain ⟨W1, hW⟩ : ∃ V, V = w1.alloc (.cells #[.bool s8, .slice A8 l8 c8, .slice B8 m8 e8] 27) := ⟨_, rfl⟩
  obtain ⟨hgl, bl⟩ := al1 w1 #[.bool s8, .slice A8 l8 c8, .slice B8 m8 e8] 27
  rw [← hW] at hgl bl ⊢
  clear hW
  have HV8 := hid (hv.gr hgl)
  have HB8 := hid bl
  have HL8 := hid bl.lt
  have HB2 := hid (HB2.out.gr (hg.trans hgl))
  have HB3 := hid (HB3.out.gr (hg.trans hgl))
  have HG1 := hid ((HG0.out.trans hg).trans hgl)
  have HLW := hid hg.size
  clear hv hg hgl bl
  go_wp2_with fail
  refine (HF2.out W1).mono ?_
  rintro e w2 ⟨v2, rfl, hv, hg⟩
  obtain ⟨A9, l9, c9, B9, m9, e9, rfl, hv⟩ := hv.form
  obtain ⟨s9, hs⟩ : ∃ b, b = decide (R.num < 0) := ⟨_, rfl⟩
  rw [← hs] at hv ⊢
  clear hs
  go_upto_region 5 with (fail)
  obtain ⟨W2, hW⟩ : ∃ V, V = w2.alloc (.cells #[.bool s9, .slice A9 l9 c9, .slice B9 m9 e9] 27) := ⟨_, rfl⟩
  obtain ⟨hgl, bl⟩ := al1 w2 #[.bool s9, .slice A9 l9 c9, .slice B9 m9 e9] 27
  rw [← hW] at hgl bl ⊢
  clear hW
  have HV9 := hid (hv.gr hgl)
  have HB9 := hid bl
  have HL9 := hid bl.lt
  have HV8 := hid (HV8.out.gr (hg.trans hgl))
  have HB8 := hid (HB8.out.gr (hg.trans hgl))
  have HB2 := hid (HB2.out.gr (hg.trans hgl))
  have HB3 := hid (HB3.out.gr (hg.trans hgl))
  have HG2 := hid ((HG1.out.trans hg).trans hgl)
  have hlt12 : w1.heap.size < w2.heap.size := Nat.lt_of_lt_of_le HL8.out hg.size
  clear hv hg hgl bl
  have g0 : W2.cell? ⟨w1.heap.size, 0, none⟩ = some (.bool s8) := HB8.out.c 0 rfl
  have g1 : W2.cell? ⟨w1.heap.size, 1, none⟩ = some (.slice A8 l8 c8) := HB8.out.c 1 rfl
  have g2 : W2.cell? ⟨w1.heap.size, 2, none⟩ = some (.slice B8 m8 e8) := HB8.out.c 2 rfl
  have h0 : W2.cell? ⟨w2.heap.size, 0, none⟩ = some (.bool s9) := HB9.out.c 0 rfl
  have h1 : W2.cell? ⟨w2.heap.size, 1, none⟩ = some (.slice A9 l9 c9) := HB9.out.c 1 rfl
  have h2 : W2.cell? ⟨w2.heap.size, 2, none⟩ = some (.slice B9 m9 e9) := HB9.out.c 2 rfl
  go_wp2_with fail
  refine (HS1.out W2 _ _ _ _ HV8.out HV9.out).mono ?_
  rintro e w3 ⟨rfl, hg⟩
  have HB8 := hid (HB8.out.gr hg)
  have HB9 := hid (HB9.out.gr hg)
  have HB2 := hid (HB2.out.gr hg)
  have HB3 := hid (HB3.out.gr hg)
  have HG3 := hid (HG2.out.trans hg)
  have HG23 := hid hg
  clear hg g0 g1 g2 h0 h1 h2 HV8 HV9
  have p0 : w3.cell? ⟨W.heap.size, 0, none⟩ = some (.bool s2) := HB2.out.c 0 rfl
  have p1 : w3.cell? ⟨W.heap.size, 1, none⟩ = some (.slice A2 l2 c2) := HB2.out.c 1 rfl
  have q0 : w3.cell? ⟨W.heap.size + 1, 0, none⟩ = some (.bool s3) := HB3.out.c 0 rfl
  have q1 : w3.cell? ⟨W.heap.size + 1, 1, none⟩ = some (.slice A3 l3 c3) := HB3.out.c 1 rfl
  go_wp2_with fail
  refine (HM1.out w3 _ _ (HZ2.out.gr HG3.out) (HZ3.out.gr HG3.out)).mono ?_
  rintro e w4 ⟨v4, rfl, hv, hg⟩
  obtain ⟨A4, l4, c4, B4, m4, e4, rfl, hv⟩ := hv.form
  obtain ⟨s4, hs⟩ : ∃ b, b = decide (Q.num < 0) := ⟨_, rfl⟩
  rw [← hs] at hv ⊢
  clear hs
  have HB8 := hid (HB8.out.gr hg)
  have HB9 := hid (HB9.out.gr hg)
  have HB2 := hid (HB2.out.gr hg)
  have HB3 := hid (HB3.out.gr hg)
  have HG4 := hid (HG3.out.trans hg)
  have HL3 : Hid (w1.heap.size < w3.heap.size) := Nat.lt_of_lt_of_le hlt12 (Nat.le_trans (Nat.le_of_lt HL9.out) HG23.out.size)
  clear hg p0 p1 q0 q1
  have z0 : w4.cell? ⟨w1.heap.size, 0, none⟩ = some (.bool s8) := HB8.out.c 0 rfl
  have z1 : w4.cell? ⟨w1.heap.size, 1, none⟩ = some (.slice A8 l8 c8) := HB8.out.c 1 rfl
  have z2' : w4.cell? ⟨w1.heap.size, 2, none⟩ = some (.slice B8 m8 e8) := HB8.out.c 2 rfl
  have f0 : w4.frozen? ⟨w1.heap.size, 0, none⟩ = false := HB8.out.free 0
  have f1 : w4.frozen? ⟨w1.heap.size, 1, none⟩ = false := HB8.out.free 1
  have f2 : w4.frozen? ⟨w1.heap.size, 2, none⟩ = false := HB8.out.free 2
  have f3 : w1.heap.size < w4.heap.size := HB8.out.lt
  go_upto_region 8 with (fail)
  obtain ⟨W4, hW⟩ : ∃ V, V = ((w4.setCell ⟨w1.heap.size, 0, none⟩ (.bool s4)).setCell ⟨w1.heap.size, 1, none⟩ (.slice A4 l4 c4)).setCell ⟨w1.heap.size, 2, none⟩ (.slice B4 m4 e4) := ⟨_, rfl⟩
  have hx : Ex (w1.heap.size) w4 W4 := by rw [hW]; exact (((Ex.refl _ w4).setCell 0 _).setCell 1 _).setCell 2 _
  have hbn : Blk W4 (w1.heap.size) #[.bool s4, .slice A4 l4 c4, .slice B4 m4 e4] 27 := by rw [hW]; exact ((HB8.out.set 0 _).set 1 _).set 2 _
  rw [← hW]
  clear hW z0 z1 z2' f0 f1 f2 f3
  have HV4 := hid (hv.exb hx HL3.out)
  have HB4 := hid hbn
  have HB9 := hid (HB9.out.ex hx (by omega))
  have hWlt : W.heap.size + 1 < w1.heap.size := Nat.lt_of_lt_of_le HBL3.out HLW.out
  have HB2 := hid (HB2.out.ex hx (by omega))
  have HB3 := hid (HB3.out.ex hx (by omega))
  have HG5 := hid (HG4.out.ex hx (by omega))
  have HL94 := hid HB9.out.lt
  clear hv hx hbn
  have p0 : W4.cell? ⟨W.heap.size, 0, none⟩ = some (.bool s2) := HB2.out.c 0 rfl
  have p1 : W4.cell? ⟨W.heap.size, 1, none⟩ = some (.slice A2 l2 c2) := HB2.out.c 1 rfl
  have q0 : W4.cell? ⟨W.heap.size + 1, 0, none⟩ = some (.bool s3) := HB3.out.c 0 rfl
  have q1 : W4.cell? ⟨W.heap.size + 1, 1, none⟩ = some (.slice A3 l3 c3) := HB3.out.c 1 rfl
  go_wp2_with fail
  refine (HM2.out W4 _ _ (HZ2.out.gr HG5.out) (HZ3.out.gr HG5.out)).mono ?_
  rintro e w5 ⟨v5, rfl, hv, hg⟩
  obtain ⟨A5, l5, c5, B5, m5, e5, rfl, hv⟩ := hv.form
  obtain ⟨s5, hs⟩ : ∃ b, b = decide (Q.num < 0) := ⟨_, rfl⟩
  rw [← hs] at hv ⊢
  clear hs
  have HV4 := hid (HV4.out.gr hg)
  have HB4 := hid (HB4.out.gr hg)
  have HB9 := hid (HB9.out.gr hg)
  have HG6 := hid (HG5.out.trans hg)
  have HGW := hid hg
  clear hg p0 p1 q0 q1
  have z0 : w5.cell? ⟨w2.heap.size, 0, none⟩ = some (.bool s9) := HB9.out.c 0 rfl
  have z1 : w5.cell? ⟨w2.heap.size, 1, none⟩ = some (.slice A9 l9 c9) := HB9.out.c 1 rfl
  have z2' : w5.cell? ⟨w2.heap.size, 2, none⟩ = some (.slice B9 m9 e9) := HB9.out.c 2 rfl
  have f0 : w5.frozen? ⟨w2.heap.size, 0, none⟩ = false := HB9.out.free 0
  have f1 : w5.frozen? ⟨w2.heap.size, 1, none⟩ = false := HB9.out.free 1
  have f2 : w5.frozen? ⟨w2.heap.size, 2, none⟩ = false := HB9.out.free 2
  have f3 : w2.heap.size < w5.heap.size := HB9.out.lt
  go_upto_region 9 with (fail)
  obtain ⟨W5, hW⟩ : ∃ V, V = ((w5.setCell ⟨w2.heap.size, 0, none⟩ (.bool s5)).setCell ⟨w2.heap.size, 1, none⟩ (.slice A5 l5 c5)).setCell ⟨w2.heap.size, 2, none⟩ (.slice B5 m5 e5) := ⟨_, rfl⟩
  have hx : Ex (w2.heap.size) w5 W5 := by rw [hW]; exact (((Ex.refl _ w5).setCell 0 _).setCell 1 _).setCell 2 _
  have hbn : Blk W5 (w2.heap.size) #[.bool s5, .slice A5 l5 c5, .slice B5 m5 e5] 27 := by rw [hW]; exact ((HB9.out.set 0 _).set 1 _).set 2 _
  rw [← hW]
  clear hW z0 z1 z2' f0 f1 f2 f3
  have hL4 : w2.heap.size < W4.heap.size := HL94.out
  have HV5 := hid (hv.exb hx hL4)
  have HB5 := hid hbn
  have HV4 := hid (VQ.box HV4.out HB9.out hx)
  have HB4 := hid (HB4.out.ex hx (by omega))
  have HG7 := hid (HG6.out.ex hx (by omega))
  clear hv hx hbn
  have g0 : W5.cell? ⟨w1.heap.size, 0, none⟩ = some (.bool s4) := HB4.out.c 0 rfl
  have g1 : W5.cell? ⟨w1.heap.size, 1, none⟩ = some (.slice A4 l4 c4) := HB4.out.c 1 rfl
  have g2 : W5.cell? ⟨w1.heap.size, 2, none⟩ = some (.slice B4 m4 e4) := HB4.out.c 2 rfl
  have h0 : W5.cell? ⟨w2.heap.size, 0, none⟩ = some (.bool s5) := HB5.out.c 0 rfl
  have h1 : W5.cell? ⟨w2.heap.size, 1, none⟩ = some (.slice A5 l5 c5) := HB5.out.c 1 rfl
  have h2 : W5.cell? ⟨w2.heap.size, 2, none⟩ = some (.slice B5 m5 e5) := HB5.out.c 2 rfl
  go_wp2_with fail
  refine (HS2.out W5 _ _ _ _ HV4.out HV5.out).mono ?_
  rintro e w6 ⟨rfl, hg⟩
  have HG8 := hid (HG7.out.trans hg)
  clear hg
  go_wp2
  go_ret
  exact ⟨rfl, HG8.out⟩
end Go.Proofs.Ytkbgdiejjabdmaa
