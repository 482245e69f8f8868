/- The walks of the reference's ratio Cmp, Add, Mul, Sub, Div. -/
import Derived.Test.YtkbgdiejjabdmaaRgN
import Derived.Deep.CutRange
namespace Go.Proofs.Ytkbgdiejjabdmaa
open Go.RowKit

/-- An integer in a variable. -/
def IntAt (W : World) (z : Int) (L : Nat) (a : Value) (V : World) : Prop := ∃ g s A l c, a = .pointer (some ⟨g, 0, none⟩) ∧ Blk V g #[.bool s, .slice A l c] 25 ∧ VZ V W.heap.size (.agg #[.bool s, .slice A l c]) z L ∧ Gr W V ∧ W.heap.size ≤ g
theorem int_at1 {W w : World} {z : Int} {L b : Nat} {s : Bool} {A : Option Addr} {l c : Nat} (hG : Gr W w) (hv : VZ w b (.agg #[.bool s, .slice A l c]) z L) (hb : W.heap.size ≤ b) :
    IntAt W z L (.pointer (some ⟨w.heap.size, 0, none⟩)) (w.alloc (.cells #[.bool s, .slice A l c] 25)) :=
  ⟨_, s, A, l, c, rfl, Blk.new w _ _, (hv.gr (Gr.alloc _ _)).base hb, hG.trans (Gr.alloc _ _), hG.size⟩
theorem int_at2 {W w : World} {z : Int} {L b g : Nat} {s : Bool} {A : Option Addr} {l c : Nat} {x y : Value} (hG : Gr W w) (hv : VZ w b (.agg #[.bool s, .slice A l c]) z L) (hB : Blk w g #[x, y] 25) (hb : W.heap.size ≤ b) (hg : W.heap.size ≤ g) (hgb : g < b) :
    IntAt W z L (.pointer (some ⟨g, 0, none⟩)) ((w.setCell ⟨g, 0, none⟩ (.bool s)).setCell ⟨g, 1, none⟩ (.slice A l c)) := by
  have hx := ((Ex.refl g w).setCell 0 (.bool s)).setCell 1 (.slice A l c)
  exact ⟨_, s, A, l, c, rfl, (hB.set 0 _).set 1 _, (hv.exb hx hgb).base hb, hG.ex hx hg, hg⟩
theorem Gr.set2 {W w : World} {g : Nat} {x y : Value} (h : Gr W w) (hg : W.heap.size ≤ g) : Gr W ((w.setCell ⟨g, 0, none⟩ x).setCell ⟨g, 1, none⟩ y) := h.ex (((Ex.refl g w).setCell 0 x).setCell 1 y) hg
theorem Gr.al' {W w : World} (h : Gr W w) (o : Obj) : Gr W (w.alloc o) := h.trans (Gr.alloc _ _)

set_option maxHeartbeats 8000000 in
theorem xrcmp_c (w : World) (v1 v2 : Value) (p q : Rat) (L : Nat) (h1 : AQ w v1 p L) (h2 : AQ w v2 q L) (hL1 : 1 ≤ L) (hL : L ≤ 34359738368) :
    Calls Try.prog 19 #[v1, v2] w (Is w (.int .i64 (cmpQ p q))) := by
  obtain ⟨neg1, A1, l1, c1, A2, l2, c2, z1, k1, rfl, hk1, hq1, HTP1, HLW1⟩ := xtl w v1 p L h1 hL1 (by omega)
  obtain ⟨neg2, A3, l3, c3, A4, l4, c4, z2, k2, rfl, hk2, hq2, HTP2, HLW2⟩ := xtl w v2 q L h2 hL1 (by omega)
  obtain ⟨R, hR⟩ : ∃ R, R = cmpQ p q := ⟨_, rfl⟩
  rw [← hR]
  have HCM : Hid (∀ (V : World) (a b : Value), AZ V a (z1 * (k2 : Int)) (L + L) → AZ V b (z2 * (k1 : Int)) (L + L) → Calls Try.prog 54 #[a, b] V (Is V (.int .i64 R))) := fun V a b ha hb => by
    have h := xzcmp_c V a b _ _ _ _ ha hb (by omega) (by omega)
    rwa [← cmpQ_mk _ _ _ _ hk1 hk2, ← hq1, ← hq2, ← hR] at h
  clear hR hk1 hk2 hq1 hq2 h1 h2
  go_enter Try.func19, Try.ntmps19
  go_wp2
  obtain ⟨W, hW⟩ : ∃ W, W = (w.alloc (.cells #[.bool neg1, .slice A1 l1 c1, .slice A2 l2 c2] 27)).alloc (.cells #[.bool neg2, .slice A3 l3 c3, .slice A4 l4 c4] 27) := ⟨_, rfl⟩
  obtain ⟨hg, b0, b1⟩ := al2 w #[.bool neg1, .slice A1 l1 c1, .slice A2 l2 c2] #[.bool neg2, .slice A3 l3 c3, .slice A4 l4 c4] 27 27
  rw [← hW] at hg b0 b1 ⊢
  clear hW
  have c00 : W.cell? ⟨w.heap.size, 0, none⟩ = some (.bool neg1) := b0.c 0 rfl
  have c01 : W.cell? ⟨w.heap.size, 1, none⟩ = some (.slice A1 l1 c1) := b0.c 1 rfl
  have c02 : W.cell? ⟨w.heap.size, 2, none⟩ = some (.slice A2 l2 c2) := b0.c 2 rfl
  have c10 : W.cell? ⟨w.heap.size + 1, 0, none⟩ = some (.bool neg2) := b1.c 0 rfl
  have c11 : W.cell? ⟨w.heap.size + 1, 1, none⟩ = some (.slice A3 l3 c3) := b1.c 1 rfl
  have c12 : W.cell? ⟨w.heap.size + 1, 2, none⟩ = some (.slice A4 l4 c4) := b1.c 2 rfl
  have HG := hid hg
  have HS : Hid (w.heap.size < W.heap.size) := by have h := b1.lt; unfold Hid; omega
  clear hg b0 b1
  go_cut [5] from 7 to 12 (fun x V => Hid (IntAt W (z1 * (k2 : Int)) (L + L) x V))
  case first =>
    go_region_held3 (fun V => Gr W V ∧ V.cell? ⟨w.heap.size, 0, none⟩ = some (.bool neg1) ∧ V.cell? ⟨w.heap.size, 1, none⟩ = some (.slice A1 l1 c1) ∧ V.cell? ⟨w.heap.size, 2, none⟩ = some (.slice A2 l2 c2) ∧ V.cell? ⟨w.heap.size + 1, 0, none⟩ = some (.bool neg2) ∧ V.cell? ⟨w.heap.size + 1, 1, none⟩ = some (.slice A3 l3 c3) ∧ V.cell? ⟨w.heap.size + 1, 2, none⟩ = some (.slice A4 l4 c4))
      ((refine (fun G => ⟨G, Gr.cell G c00, Gr.cell G c01, Gr.cell G c02, Gr.cell G c10, Gr.cell G c11, Gr.cell G c12⟩) ?_; first
        | exact (Gr.refl W).drew
        | with_reducible exact Gr.drew (Gr.alloc _ _)
        | with_reducible exact GX4.out
        | with_reducible exact GX3.out
        | with_reducible exact GX2.out
        | with_reducible exact GX1.out
        | with_reducible exact Gr.al' (‹Gr W _ ∧ _›).1 _
        | with_reducible exact Gr.al' GX4.out _
        | ((with_reducible refine Gr.set2 GX4.out ?_) <;> (first | exact Nat.le_refl _ | exact GX4.out.size | exact GX3.out.size | exact GX2.out.size | exact GX1.out.size))
        | ((with_reducible refine Gr.set2 (‹Gr W _ ∧ _›).1 ?_) <;> (first | exact Nat.le_refl _ | exact GX4.out.size | exact GX3.out.size | exact GX2.out.size | exact GX1.out.size))))
      (first
        | (go_at_call 50; refine (xzmul_c _ g1 g3 z1 (k2 : Int) L L (HV1.out.az.gr (by first | exact Gr.refl _ | exact Gr.alloc _ _)) (HV3.out.az.gr (by first | exact Gr.refl _ | exact Gr.alloc _ _)) (by omega) (by omega)).mono ?_; rintro e x4 ⟨g4, rfl, hv, hg⟩; have GX4 := hid ((‹Gr W _ ∧ _›).1.trans hg); (try (have B4 : Hid (Blk x4 x3.heap.size #[.bool false, .slice none 0 0] 25) := hid ((Blk.new x3 #[.bool false, .slice none 0 0] 25).gr hg))); (try (have B4 := hid (B3.out.gr hg))); obtain ⟨Aj, lj, cj, rfl, hv⟩ := hv.form; obtain ⟨sj, hs⟩ : ∃ b, b = decide (z1 * (k2 : Int) < 0) := ⟨_, rfl⟩; rw [← hs] at hv ⊢; have HVJ := hid hv; clear hs; (try (first | (have y0 : x4.cell? ⟨W.heap.size, 0, none⟩ = some (.bool false) := B4.out.c 0 rfl; have u0 : x4.frozen? ⟨W.heap.size, 0, none⟩ = false := B4.out.free 0; have y1 : x4.cell? ⟨W.heap.size, 1, none⟩ = some (.slice none 0 0) := B4.out.c 1 rfl; have u1 : x4.frozen? ⟨W.heap.size, 1, none⟩ = false := B4.out.free 1; have u9 : W.heap.size < x4.heap.size := B4.out.lt) | (have y0 : x4.cell? ⟨x1.heap.size, 0, none⟩ = some (.bool false) := B4.out.c 0 rfl; have u0 : x4.frozen? ⟨x1.heap.size, 0, none⟩ = false := B4.out.free 0; have y1 : x4.cell? ⟨x1.heap.size, 1, none⟩ = some (.slice none 0 0) := B4.out.c 1 rfl; have u1 : x4.frozen? ⟨x1.heap.size, 1, none⟩ = false := B4.out.free 1; have u9 : x1.heap.size < x4.heap.size := B4.out.lt) | (have y0 : x4.cell? ⟨x2.heap.size, 0, none⟩ = some (.bool false) := B4.out.c 0 rfl; have u0 : x4.frozen? ⟨x2.heap.size, 0, none⟩ = false := B4.out.free 0; have y1 : x4.cell? ⟨x2.heap.size, 1, none⟩ = some (.slice none 0 0) := B4.out.c 1 rfl; have u1 : x4.frozen? ⟨x2.heap.size, 1, none⟩ = false := B4.out.free 1; have u9 : x2.heap.size < x4.heap.size := B4.out.lt) | (have y0 : x4.cell? ⟨x3.heap.size, 0, none⟩ = some (.bool false) := B4.out.c 0 rfl; have u0 : x4.frozen? ⟨x3.heap.size, 0, none⟩ = false := B4.out.free 0; have y1 : x4.cell? ⟨x3.heap.size, 1, none⟩ = some (.slice none 0 0) := B4.out.c 1 rfl; have u1 : x4.frozen? ⟨x3.heap.size, 1, none⟩ = false := B4.out.free 1; have u9 : x3.heap.size < x4.heap.size := B4.out.lt))); clear hv hg)
        | (go_at_call 52; refine (xzmake_c _ false g2 k2 L (HV2.out.an.gr (by first | exact Gr.refl _ | exact Gr.alloc _ _)) (by omega)).mono ?_; rintro e x3 ⟨g3, rfl, hv, hg⟩; have GX3 := hid ((‹Gr W _ ∧ _›).1.trans hg); (try (have B3 : Hid (Blk x3 x2.heap.size #[.bool false, .slice none 0 0] 25) := hid ((Blk.new x2 #[.bool false, .slice none 0 0] 25).gr hg))); (try (have B3 := hid (B2.out.gr hg))); have HV1 := hid (HV1.out.gr (Gr.trans (by first | exact Gr.refl _ | exact Gr.alloc _ _) hg)); have HV3 := hid hv; clear hv hg)
        | (go_at_call 53; refine (HLW2.out _ (HG.out.trans (‹Gr W _ ∧ _›).1)).mono ?_; rintro e x2 ⟨g2, rfl, hv, hg⟩; have GX2 := hid ((‹Gr W _ ∧ _›).1.trans hg); (try (have B2 : Hid (Blk x2 x1.heap.size #[.bool false, .slice none 0 0] 25) := hid ((Blk.new x1 #[.bool false, .slice none 0 0] 25).gr hg))); (try (have B2 := hid (B1.out.gr hg))); have HV1 := hid (HV1.out.gr (Gr.trans (by first | exact Gr.refl _ | exact Gr.alloc _ _) hg)); have HV2 := hid hv; clear hv hg)
        | (go_at_call 51; refine (HTP1.out _ (HG.out.trans (‹Gr W _ ∧ _›).1)).mono ?_; rintro e x1 ⟨g1, rfl, hv, hg⟩; have GX1 := hid ((‹Gr W _ ∧ _›).1.trans hg); (try (have B1 : Hid (Blk x1 W.heap.size #[.bool false, .slice none 0 0] 25) := hid ((Blk.new W #[.bool false, .slice none 0 0] 25).gr ((Gr.refl _).drew.trans hg)))); have HV1 := hid hv; clear hv hg))
    all_goals go_wp2_with fail
    all_goals go_meet
    all_goals refine hid ?_
    all_goals first
      | ((with_reducible refine int_at1 GX4.out HVJ.out ?_) <;> (first | exact Nat.le_refl _ | exact GX4.out.size | exact GX3.out.size | exact GX2.out.size | exact GX1.out.size))
      | exact int_at2 GX4.out HVJ.out B4.out (by first | exact GX3.out.size | (have := GX3.out.size; simp; omega)) (by first | exact Nat.le_refl _ | exact GX4.out.size | exact GX3.out.size | exact GX2.out.size | exact GX1.out.size) (by first | exact B3.out.lt | simp)
  case rest =>
  obtain ⟨W1, hwc⟩ : ∃ V, V = wc := ⟨_, rfl⟩
  subst hwc
  obtain ⟨b1, t1, C1, d1, e1, rfl, hb, hv, hg, hge⟩ := hcut.out
  have HW1 := hid hv
  have HX1 := hid hg
  have HBX1 := hid hb
  have HGE1 := hid hge
  clear hcut hb hv hg hge
  have m00 : W1.cell? ⟨w.heap.size, 0, none⟩ = some (.bool neg1) := Gr.cell HX1.out c00
  have m01 : W1.cell? ⟨w.heap.size, 1, none⟩ = some (.slice A1 l1 c1) := Gr.cell HX1.out c01
  have m02 : W1.cell? ⟨w.heap.size, 2, none⟩ = some (.slice A2 l2 c2) := Gr.cell HX1.out c02
  have m10 : W1.cell? ⟨w.heap.size + 1, 0, none⟩ = some (.bool neg2) := Gr.cell HX1.out c10
  have m11 : W1.cell? ⟨w.heap.size + 1, 1, none⟩ = some (.slice A3 l3 c3) := Gr.cell HX1.out c11
  have m12 : W1.cell? ⟨w.heap.size + 1, 2, none⟩ = some (.slice A4 l4 c4) := Gr.cell HX1.out c12
  have HG1 := hid (HG.out.trans HX1.out)
  clear c00 c01 c02 c10 c11 c12
  go_upto_region 2 with (fail)
  go_cut [6] from 13 to 18 (fun x V => Hid (IntAt W1 (z2 * (k1 : Int)) (L + L) x V))
  case first =>
    go_region_held3 (fun V => Gr W1 V ∧ V.cell? ⟨w.heap.size, 0, none⟩ = some (.bool neg1) ∧ V.cell? ⟨w.heap.size, 1, none⟩ = some (.slice A1 l1 c1) ∧ V.cell? ⟨w.heap.size, 2, none⟩ = some (.slice A2 l2 c2) ∧ V.cell? ⟨w.heap.size + 1, 0, none⟩ = some (.bool neg2) ∧ V.cell? ⟨w.heap.size + 1, 1, none⟩ = some (.slice A3 l3 c3) ∧ V.cell? ⟨w.heap.size + 1, 2, none⟩ = some (.slice A4 l4 c4))
      ((refine (fun G => ⟨G, Gr.cell G m00, Gr.cell G m01, Gr.cell G m02, Gr.cell G m10, Gr.cell G m11, Gr.cell G m12⟩) ?_; first
        | exact (Gr.refl W1).drew
        | with_reducible exact Gr.drew (Gr.alloc _ _)
        | with_reducible exact GX4.out
        | with_reducible exact GX3.out
        | with_reducible exact GX2.out
        | with_reducible exact GX1.out
        | with_reducible exact Gr.al' (‹Gr W1 _ ∧ _›).1 _
        | with_reducible exact Gr.al' GX4.out _
        | ((with_reducible refine Gr.set2 GX4.out ?_) <;> (first | exact Nat.le_refl _ | exact GX4.out.size | exact GX3.out.size | exact GX2.out.size | exact GX1.out.size))
        | ((with_reducible refine Gr.set2 (‹Gr W1 _ ∧ _›).1 ?_) <;> (first | exact Nat.le_refl _ | exact GX4.out.size | exact GX3.out.size | exact GX2.out.size | exact GX1.out.size))))
      (first
        | (go_at_call 50; refine (xzmul_c _ g1 g3 z2 (k1 : Int) L L (HV1.out.az.gr (by first | exact Gr.refl _ | exact Gr.alloc _ _)) (HV3.out.az.gr (by first | exact Gr.refl _ | exact Gr.alloc _ _)) (by omega) (by omega)).mono ?_; rintro e x4 ⟨g4, rfl, hv, hg⟩; have GX4 := hid ((‹Gr W1 _ ∧ _›).1.trans hg); (try (have B4 : Hid (Blk x4 x3.heap.size #[.bool false, .slice none 0 0] 25) := hid ((Blk.new x3 #[.bool false, .slice none 0 0] 25).gr hg))); (try (have B4 := hid (B3.out.gr hg))); obtain ⟨Aj, lj, cj, rfl, hv⟩ := hv.form; obtain ⟨sj, hs⟩ : ∃ b, b = decide (z2 * (k1 : Int) < 0) := ⟨_, rfl⟩; rw [← hs] at hv ⊢; have HVJ := hid hv; clear hs; (try (first | (have y0 : x4.cell? ⟨W1.heap.size, 0, none⟩ = some (.bool false) := B4.out.c 0 rfl; have u0 : x4.frozen? ⟨W1.heap.size, 0, none⟩ = false := B4.out.free 0; have y1 : x4.cell? ⟨W1.heap.size, 1, none⟩ = some (.slice none 0 0) := B4.out.c 1 rfl; have u1 : x4.frozen? ⟨W1.heap.size, 1, none⟩ = false := B4.out.free 1; have u9 : W1.heap.size < x4.heap.size := B4.out.lt) | (have y0 : x4.cell? ⟨x1.heap.size, 0, none⟩ = some (.bool false) := B4.out.c 0 rfl; have u0 : x4.frozen? ⟨x1.heap.size, 0, none⟩ = false := B4.out.free 0; have y1 : x4.cell? ⟨x1.heap.size, 1, none⟩ = some (.slice none 0 0) := B4.out.c 1 rfl; have u1 : x4.frozen? ⟨x1.heap.size, 1, none⟩ = false := B4.out.free 1; have u9 : x1.heap.size < x4.heap.size := B4.out.lt) | (have y0 : x4.cell? ⟨x2.heap.size, 0, none⟩ = some (.bool false) := B4.out.c 0 rfl; have u0 : x4.frozen? ⟨x2.heap.size, 0, none⟩ = false := B4.out.free 0; have y1 : x4.cell? ⟨x2.heap.size, 1, none⟩ = some (.slice none 0 0) := B4.out.c 1 rfl; have u1 : x4.frozen? ⟨x2.heap.size, 1, none⟩ = false := B4.out.free 1; have u9 : x2.heap.size < x4.heap.size := B4.out.lt) | (have y0 : x4.cell? ⟨x3.heap.size, 0, none⟩ = some (.bool false) := B4.out.c 0 rfl; have u0 : x4.frozen? ⟨x3.heap.size, 0, none⟩ = false := B4.out.free 0; have y1 : x4.cell? ⟨x3.heap.size, 1, none⟩ = some (.slice none 0 0) := B4.out.c 1 rfl; have u1 : x4.frozen? ⟨x3.heap.size, 1, none⟩ = false := B4.out.free 1; have u9 : x3.heap.size < x4.heap.size := B4.out.lt))); clear hv hg)
        | (go_at_call 52; refine (xzmake_c _ false g2 k1 L (HV2.out.an.gr (by first | exact Gr.refl _ | exact Gr.alloc _ _)) (by omega)).mono ?_; rintro e x3 ⟨g3, rfl, hv, hg⟩; have GX3 := hid ((‹Gr W1 _ ∧ _›).1.trans hg); (try (have B3 : Hid (Blk x3 x2.heap.size #[.bool false, .slice none 0 0] 25) := hid ((Blk.new x2 #[.bool false, .slice none 0 0] 25).gr hg))); (try (have B3 := hid (B2.out.gr hg))); have HV1 := hid (HV1.out.gr (Gr.trans (by first | exact Gr.refl _ | exact Gr.alloc _ _) hg)); have HV3 := hid hv; clear hv hg)
        | (go_at_call 53; refine (HLW1.out _ (HG1.out.trans (‹Gr W1 _ ∧ _›).1)).mono ?_; rintro e x2 ⟨g2, rfl, hv, hg⟩; have GX2 := hid ((‹Gr W1 _ ∧ _›).1.trans hg); (try (have B2 : Hid (Blk x2 x1.heap.size #[.bool false, .slice none 0 0] 25) := hid ((Blk.new x1 #[.bool false, .slice none 0 0] 25).gr hg))); (try (have B2 := hid (B1.out.gr hg))); have HV1 := hid (HV1.out.gr (Gr.trans (by first | exact Gr.refl _ | exact Gr.alloc _ _) hg)); have HV2 := hid hv; clear hv hg)
        | (go_at_call 51; refine (HTP2.out _ (HG1.out.trans (‹Gr W1 _ ∧ _›).1)).mono ?_; rintro e x1 ⟨g1, rfl, hv, hg⟩; have GX1 := hid ((‹Gr W1 _ ∧ _›).1.trans hg); (try (have B1 : Hid (Blk x1 W1.heap.size #[.bool false, .slice none 0 0] 25) := hid ((Blk.new W1 #[.bool false, .slice none 0 0] 25).gr ((Gr.refl _).drew.trans hg)))); have HV1 := hid hv; clear hv hg))
    all_goals go_wp2_with fail
    all_goals go_meet
    all_goals refine hid ?_
    all_goals first
      | ((with_reducible refine int_at1 GX4.out HVJ.out ?_) <;> (first | exact Nat.le_refl _ | exact GX4.out.size | exact GX3.out.size | exact GX2.out.size | exact GX1.out.size))
      | exact int_at2 GX4.out HVJ.out B4.out (by first | exact GX3.out.size | (have := GX3.out.size; simp; omega)) (by first | exact Nat.le_refl _ | exact GX4.out.size | exact GX3.out.size | exact GX2.out.size | exact GX1.out.size) (by first | exact B3.out.lt | simp)
  case rest =>
  obtain ⟨W2, hwc⟩ : ∃ V, V = wc := ⟨_, rfl⟩
  subst hwc
  obtain ⟨b2, t2, C2, d2, e2, rfl, hb, hv, hg, hge⟩ := hcut.out
  have HW2 := hid hv
  have HX2 := hid hg
  have HBX2 := hid hb
  have HGE2 := hid hge
  clear hcut hb hv hg hge
  have n00 : W2.cell? ⟨w.heap.size, 0, none⟩ = some (.bool neg1) := Gr.cell HX2.out m00
  have n01 : W2.cell? ⟨w.heap.size, 1, none⟩ = some (.slice A1 l1 c1) := Gr.cell HX2.out m01
  have n02 : W2.cell? ⟨w.heap.size, 2, none⟩ = some (.slice A2 l2 c2) := Gr.cell HX2.out m02
  have n10 : W2.cell? ⟨w.heap.size + 1, 0, none⟩ = some (.bool neg2) := Gr.cell HX2.out m10
  have n11 : W2.cell? ⟨w.heap.size + 1, 1, none⟩ = some (.slice A3 l3 c3) := Gr.cell HX2.out m11
  have n12 : W2.cell? ⟨w.heap.size + 1, 2, none⟩ = some (.slice A4 l4 c4) := Gr.cell HX2.out m12
  have v10 : W2.cell? ⟨b1, 0, none⟩ = some (.bool t1) := (HBX1.out.gr HX2.out).c 0 rfl
  have v11 : W2.cell? ⟨b1, 1, none⟩ = some (.slice C1 d1 e1) := (HBX1.out.gr HX2.out).c 1 rfl
  have v20 : W2.cell? ⟨b2, 0, none⟩ = some (.bool t2) := HBX2.out.c 0 rfl
  have v21 : W2.cell? ⟨b2, 1, none⟩ = some (.slice C2 d2 e2) := HBX2.out.c 1 rfl
  have HW1 := hid (HW1.out.gr HX2.out)
  have HG2 := hid (HG1.out.trans HX2.out)
  have HXX := hid (HX1.out.trans HX2.out)
  clear m00 m01 m02 m10 m11 m12
  go_wp2_with fail
  refine (HCM.out W2 _ _ HW1.out.az HW2.out.az).mono ?_
  rintro e x9 ⟨rfl, hg⟩
  have HX9 := hid (HG2.out.trans hg)
  clear hg
  go_wp2
  go_ret
  exact ⟨rfl, HX9.out⟩

set_option maxHeartbeats 8000000 in
theorem xradd_c (w : World) (v1 v2 : Value) (p q : Rat) (L : Nat) (h1 : AQ w v1 p L) (h2 : AQ w v2 q L) (hL1 : 1 ≤ L) (hL : L ≤ 34359738368) :
    Calls Try.prog 21 #[v1, v2] w (Ret w fun v w' => VQ w' w.heap.size v (p + q) (2 * L + 1)) := by
  obtain ⟨neg1, A1, l1, c1, A2, l2, c2, z1, k1, rfl, hk1, hq1, HTP1, HLW1⟩ := xtl w v1 p L h1 hL1 (by omega)
  obtain ⟨neg2, A3, l3, c3, A4, l4, c4, z2, k2, rfl, hk2, hq2, HTP2, HLW2⟩ := xtl w v2 q L h2 hL1 (by omega)
  obtain ⟨R, hR⟩ : ∃ R, R = p + q := ⟨_, rfl⟩
  rw [← hR]
  have HRD : Hid (∀ (V : World) (a b : Value), AZ V a (z1 * (k2 : Int) + z2 * (k1 : Int)) (2 * L + 1) → AN V b (k1 * k2) (2 * L + 1) → Calls Try.prog 46 #[a, b] V (Ret V fun v w' => VQ w' V.heap.size v R (2 * L + 1))) := fun V a b ha hb => by
    have h := xreduce_c V a b (z1 * (k2 : Int) + z2 * (k1 : Int)) (k1 * k2) (2 * L + 1) ha hb (by exact Nat.mul_pos hk1 hk2) (by omega) (by omega)
    rwa [show mkRat (z1 * (k2 : Int) + z2 * (k1 : Int)) (k1 * k2) = R by rw [hR, hq1, hq2]; exact (Rat.mkRat_add_mkRat _ _ (by omega) (by omega)).symm] at h
  clear hR hk1 hk2 hq1 hq2 h1 h2
  go_enter Try.func21, Try.ntmps21
  go_wp2
  obtain ⟨W, hW⟩ : ∃ W, W = ((w.alloc (.cells #[.bool neg1, .slice A1 l1 c1, .slice A2 l2 c2] 27)).alloc (.cells #[.bool neg2, .slice A3 l3 c3, .slice A4 l4 c4] 27)).alloc (.cells #[.bool false, .slice none 0 0, .slice none 0 0] 27) := ⟨_, rfl⟩
  obtain ⟨hg, b0, b1, b2⟩ := al3 w #[.bool neg1, .slice A1 l1 c1, .slice A2 l2 c2] #[.bool neg2, .slice A3 l3 c3, .slice A4 l4 c4] #[.bool false, .slice none 0 0, .slice none 0 0] 27 27 27
  rw [← hW] at hg b0 b1 b2 ⊢
  clear hW
  have c00 : W.cell? ⟨w.heap.size, 0, none⟩ = some (.bool neg1) := b0.c 0 rfl
  have c01 : W.cell? ⟨w.heap.size, 1, none⟩ = some (.slice A1 l1 c1) := b0.c 1 rfl
  have c02 : W.cell? ⟨w.heap.size, 2, none⟩ = some (.slice A2 l2 c2) := b0.c 2 rfl
  have c10 : W.cell? ⟨w.heap.size + 1, 0, none⟩ = some (.bool neg2) := b1.c 0 rfl
  have c11 : W.cell? ⟨w.heap.size + 1, 1, none⟩ = some (.slice A3 l3 c3) := b1.c 1 rfl
  have c12 : W.cell? ⟨w.heap.size + 1, 2, none⟩ = some (.slice A4 l4 c4) := b1.c 2 rfl
  have HB0 := hid b2
  have HG := hid hg
  have HS : Hid (w.heap.size < W.heap.size) := by have h := b2.lt; unfold Hid; omega
  clear hg b0 b1 b2
  go_cut [5] from 7 to 12 (fun x V => Hid (IntAt W (z1 * (k2 : Int)) (L + L) x V))
  case first =>
    go_region_held3 (fun V => Gr W V ∧ V.cell? ⟨w.heap.size, 0, none⟩ = some (.bool neg1) ∧ V.cell? ⟨w.heap.size, 1, none⟩ = some (.slice A1 l1 c1) ∧ V.cell? ⟨w.heap.size, 2, none⟩ = some (.slice A2 l2 c2) ∧ V.cell? ⟨w.heap.size + 1, 0, none⟩ = some (.bool neg2) ∧ V.cell? ⟨w.heap.size + 1, 1, none⟩ = some (.slice A3 l3 c3) ∧ V.cell? ⟨w.heap.size + 1, 2, none⟩ = some (.slice A4 l4 c4))
      ((refine (fun G => ⟨G, Gr.cell G c00, Gr.cell G c01, Gr.cell G c02, Gr.cell G c10, Gr.cell G c11, Gr.cell G c12⟩) ?_; first
        | exact (Gr.refl W).drew
        | with_reducible exact Gr.drew (Gr.alloc _ _)
        | with_reducible exact GX4.out
        | with_reducible exact GX3.out
        | with_reducible exact GX2.out
        | with_reducible exact GX1.out
        | with_reducible exact Gr.al' (‹Gr W _ ∧ _›).1 _
        | with_reducible exact Gr.al' GX4.out _
        | ((with_reducible refine Gr.set2 GX4.out ?_) <;> (first | exact Nat.le_refl _ | exact GX4.out.size | exact GX3.out.size | exact GX2.out.size | exact GX1.out.size))
        | ((with_reducible refine Gr.set2 (‹Gr W _ ∧ _›).1 ?_) <;> (first | exact Nat.le_refl _ | exact GX4.out.size | exact GX3.out.size | exact GX2.out.size | exact GX1.out.size))))
      (first
        | (go_at_call 50; refine (xzmul_c _ g1 g3 z1 (k2 : Int) L L (HV1.out.az.gr (by first | exact Gr.refl _ | exact Gr.alloc _ _)) (HV3.out.az.gr (by first | exact Gr.refl _ | exact Gr.alloc _ _)) (by omega) (by omega)).mono ?_; rintro e x4 ⟨g4, rfl, hv, hg⟩; have GX4 := hid ((‹Gr W _ ∧ _›).1.trans hg); (try (have B4 : Hid (Blk x4 x3.heap.size #[.bool false, .slice none 0 0] 25) := hid ((Blk.new x3 #[.bool false, .slice none 0 0] 25).gr hg))); (try (have B4 := hid (B3.out.gr hg))); obtain ⟨Aj, lj, cj, rfl, hv⟩ := hv.form; obtain ⟨sj, hs⟩ : ∃ b, b = decide (z1 * (k2 : Int) < 0) := ⟨_, rfl⟩; rw [← hs] at hv ⊢; have HVJ := hid hv; clear hs; (try (first | (have y0 : x4.cell? ⟨W.heap.size, 0, none⟩ = some (.bool false) := B4.out.c 0 rfl; have u0 : x4.frozen? ⟨W.heap.size, 0, none⟩ = false := B4.out.free 0; have y1 : x4.cell? ⟨W.heap.size, 1, none⟩ = some (.slice none 0 0) := B4.out.c 1 rfl; have u1 : x4.frozen? ⟨W.heap.size, 1, none⟩ = false := B4.out.free 1; have u9 : W.heap.size < x4.heap.size := B4.out.lt) | (have y0 : x4.cell? ⟨x1.heap.size, 0, none⟩ = some (.bool false) := B4.out.c 0 rfl; have u0 : x4.frozen? ⟨x1.heap.size, 0, none⟩ = false := B4.out.free 0; have y1 : x4.cell? ⟨x1.heap.size, 1, none⟩ = some (.slice none 0 0) := B4.out.c 1 rfl; have u1 : x4.frozen? ⟨x1.heap.size, 1, none⟩ = false := B4.out.free 1; have u9 : x1.heap.size < x4.heap.size := B4.out.lt) | (have y0 : x4.cell? ⟨x2.heap.size, 0, none⟩ = some (.bool false) := B4.out.c 0 rfl; have u0 : x4.frozen? ⟨x2.heap.size, 0, none⟩ = false := B4.out.free 0; have y1 : x4.cell? ⟨x2.heap.size, 1, none⟩ = some (.slice none 0 0) := B4.out.c 1 rfl; have u1 : x4.frozen? ⟨x2.heap.size, 1, none⟩ = false := B4.out.free 1; have u9 : x2.heap.size < x4.heap.size := B4.out.lt) | (have y0 : x4.cell? ⟨x3.heap.size, 0, none⟩ = some (.bool false) := B4.out.c 0 rfl; have u0 : x4.frozen? ⟨x3.heap.size, 0, none⟩ = false := B4.out.free 0; have y1 : x4.cell? ⟨x3.heap.size, 1, none⟩ = some (.slice none 0 0) := B4.out.c 1 rfl; have u1 : x4.frozen? ⟨x3.heap.size, 1, none⟩ = false := B4.out.free 1; have u9 : x3.heap.size < x4.heap.size := B4.out.lt))); clear hv hg)
        | (go_at_call 52; refine (xzmake_c _ false g2 k2 L (HV2.out.an.gr (by first | exact Gr.refl _ | exact Gr.alloc _ _)) (by omega)).mono ?_; rintro e x3 ⟨g3, rfl, hv, hg⟩; have GX3 := hid ((‹Gr W _ ∧ _›).1.trans hg); (try (have B3 : Hid (Blk x3 x2.heap.size #[.bool false, .slice none 0 0] 25) := hid ((Blk.new x2 #[.bool false, .slice none 0 0] 25).gr hg))); (try (have B3 := hid (B2.out.gr hg))); have HV1 := hid (HV1.out.gr (Gr.trans (by first | exact Gr.refl _ | exact Gr.alloc _ _) hg)); have HV3 := hid hv; clear hv hg)
        | (go_at_call 53; refine (HLW2.out _ (HG.out.trans (‹Gr W _ ∧ _›).1)).mono ?_; rintro e x2 ⟨g2, rfl, hv, hg⟩; have GX2 := hid ((‹Gr W _ ∧ _›).1.trans hg); (try (have B2 : Hid (Blk x2 x1.heap.size #[.bool false, .slice none 0 0] 25) := hid ((Blk.new x1 #[.bool false, .slice none 0 0] 25).gr hg))); (try (have B2 := hid (B1.out.gr hg))); have HV1 := hid (HV1.out.gr (Gr.trans (by first | exact Gr.refl _ | exact Gr.alloc _ _) hg)); have HV2 := hid hv; clear hv hg)
        | (go_at_call 51; refine (HTP1.out _ (HG.out.trans (‹Gr W _ ∧ _›).1)).mono ?_; rintro e x1 ⟨g1, rfl, hv, hg⟩; have GX1 := hid ((‹Gr W _ ∧ _›).1.trans hg); (try (have B1 : Hid (Blk x1 W.heap.size #[.bool false, .slice none 0 0] 25) := hid ((Blk.new W #[.bool false, .slice none 0 0] 25).gr ((Gr.refl _).drew.trans hg)))); have HV1 := hid hv; clear hv hg))
    all_goals go_wp2_with fail
    all_goals go_meet
    all_goals refine hid ?_
    all_goals first
      | ((with_reducible refine int_at1 GX4.out HVJ.out ?_) <;> (first | exact Nat.le_refl _ | exact GX4.out.size | exact GX3.out.size | exact GX2.out.size | exact GX1.out.size))
      | exact int_at2 GX4.out HVJ.out B4.out (by first | exact GX3.out.size | (have := GX3.out.size; simp; omega)) (by first | exact Nat.le_refl _ | exact GX4.out.size | exact GX3.out.size | exact GX2.out.size | exact GX1.out.size) (by first | exact B3.out.lt | simp)
  case rest =>
  obtain ⟨W1, hwc⟩ : ∃ V, V = wc := ⟨_, rfl⟩
  subst hwc
  obtain ⟨b1, t1, C1, d1, e1, rfl, hb, hv, hg, hge⟩ := hcut.out
  have HW1 := hid hv
  have HX1 := hid hg
  have HBX1 := hid hb
  have HGE1 := hid hge
  clear hcut hb hv hg hge
  have m00 : W1.cell? ⟨w.heap.size, 0, none⟩ = some (.bool neg1) := Gr.cell HX1.out c00
  have m01 : W1.cell? ⟨w.heap.size, 1, none⟩ = some (.slice A1 l1 c1) := Gr.cell HX1.out c01
  have m02 : W1.cell? ⟨w.heap.size, 2, none⟩ = some (.slice A2 l2 c2) := Gr.cell HX1.out c02
  have m10 : W1.cell? ⟨w.heap.size + 1, 0, none⟩ = some (.bool neg2) := Gr.cell HX1.out c10
  have m11 : W1.cell? ⟨w.heap.size + 1, 1, none⟩ = some (.slice A3 l3 c3) := Gr.cell HX1.out c11
  have m12 : W1.cell? ⟨w.heap.size + 1, 2, none⟩ = some (.slice A4 l4 c4) := Gr.cell HX1.out c12
  have HG1 := hid (HG.out.trans HX1.out)
  clear c00 c01 c02 c10 c11 c12
  go_upto_region 2 with (fail)
  go_cut [6] from 13 to 18 (fun x V => Hid (IntAt W1 (z2 * (k1 : Int)) (L + L) x V))
  case first =>
    go_region_held3 (fun V => Gr W1 V ∧ V.cell? ⟨w.heap.size, 0, none⟩ = some (.bool neg1) ∧ V.cell? ⟨w.heap.size, 1, none⟩ = some (.slice A1 l1 c1) ∧ V.cell? ⟨w.heap.size, 2, none⟩ = some (.slice A2 l2 c2) ∧ V.cell? ⟨w.heap.size + 1, 0, none⟩ = some (.bool neg2) ∧ V.cell? ⟨w.heap.size + 1, 1, none⟩ = some (.slice A3 l3 c3) ∧ V.cell? ⟨w.heap.size + 1, 2, none⟩ = some (.slice A4 l4 c4))
      ((refine (fun G => ⟨G, Gr.cell G m00, Gr.cell G m01, Gr.cell G m02, Gr.cell G m10, Gr.cell G m11, Gr.cell G m12⟩) ?_; first
        | exact (Gr.refl W1).drew
        | with_reducible exact Gr.drew (Gr.alloc _ _)
        | with_reducible exact GX4.out
        | with_reducible exact GX3.out
        | with_reducible exact GX2.out
        | with_reducible exact GX1.out
        | with_reducible exact Gr.al' (‹Gr W1 _ ∧ _›).1 _
        | with_reducible exact Gr.al' GX4.out _
        | ((with_reducible refine Gr.set2 GX4.out ?_) <;> (first | exact Nat.le_refl _ | exact GX4.out.size | exact GX3.out.size | exact GX2.out.size | exact GX1.out.size))
        | ((with_reducible refine Gr.set2 (‹Gr W1 _ ∧ _›).1 ?_) <;> (first | exact Nat.le_refl _ | exact GX4.out.size | exact GX3.out.size | exact GX2.out.size | exact GX1.out.size))))
      (first
        | (go_at_call 50; refine (xzmul_c _ g1 g3 z2 (k1 : Int) L L (HV1.out.az.gr (by first | exact Gr.refl _ | exact Gr.alloc _ _)) (HV3.out.az.gr (by first | exact Gr.refl _ | exact Gr.alloc _ _)) (by omega) (by omega)).mono ?_; rintro e x4 ⟨g4, rfl, hv, hg⟩; have GX4 := hid ((‹Gr W1 _ ∧ _›).1.trans hg); (try (have B4 : Hid (Blk x4 x3.heap.size #[.bool false, .slice none 0 0] 25) := hid ((Blk.new x3 #[.bool false, .slice none 0 0] 25).gr hg))); (try (have B4 := hid (B3.out.gr hg))); obtain ⟨Aj, lj, cj, rfl, hv⟩ := hv.form; obtain ⟨sj, hs⟩ : ∃ b, b = decide (z2 * (k1 : Int) < 0) := ⟨_, rfl⟩; rw [← hs] at hv ⊢; have HVJ := hid hv; clear hs; (try (first | (have y0 : x4.cell? ⟨W1.heap.size, 0, none⟩ = some (.bool false) := B4.out.c 0 rfl; have u0 : x4.frozen? ⟨W1.heap.size, 0, none⟩ = false := B4.out.free 0; have y1 : x4.cell? ⟨W1.heap.size, 1, none⟩ = some (.slice none 0 0) := B4.out.c 1 rfl; have u1 : x4.frozen? ⟨W1.heap.size, 1, none⟩ = false := B4.out.free 1; have u9 : W1.heap.size < x4.heap.size := B4.out.lt) | (have y0 : x4.cell? ⟨x1.heap.size, 0, none⟩ = some (.bool false) := B4.out.c 0 rfl; have u0 : x4.frozen? ⟨x1.heap.size, 0, none⟩ = false := B4.out.free 0; have y1 : x4.cell? ⟨x1.heap.size, 1, none⟩ = some (.slice none 0 0) := B4.out.c 1 rfl; have u1 : x4.frozen? ⟨x1.heap.size, 1, none⟩ = false := B4.out.free 1; have u9 : x1.heap.size < x4.heap.size := B4.out.lt) | (have y0 : x4.cell? ⟨x2.heap.size, 0, none⟩ = some (.bool false) := B4.out.c 0 rfl; have u0 : x4.frozen? ⟨x2.heap.size, 0, none⟩ = false := B4.out.free 0; have y1 : x4.cell? ⟨x2.heap.size, 1, none⟩ = some (.slice none 0 0) := B4.out.c 1 rfl; have u1 : x4.frozen? ⟨x2.heap.size, 1, none⟩ = false := B4.out.free 1; have u9 : x2.heap.size < x4.heap.size := B4.out.lt) | (have y0 : x4.cell? ⟨x3.heap.size, 0, none⟩ = some (.bool false) := B4.out.c 0 rfl; have u0 : x4.frozen? ⟨x3.heap.size, 0, none⟩ = false := B4.out.free 0; have y1 : x4.cell? ⟨x3.heap.size, 1, none⟩ = some (.slice none 0 0) := B4.out.c 1 rfl; have u1 : x4.frozen? ⟨x3.heap.size, 1, none⟩ = false := B4.out.free 1; have u9 : x3.heap.size < x4.heap.size := B4.out.lt))); clear hv hg)
        | (go_at_call 52; refine (xzmake_c _ false g2 k1 L (HV2.out.an.gr (by first | exact Gr.refl _ | exact Gr.alloc _ _)) (by omega)).mono ?_; rintro e x3 ⟨g3, rfl, hv, hg⟩; have GX3 := hid ((‹Gr W1 _ ∧ _›).1.trans hg); (try (have B3 : Hid (Blk x3 x2.heap.size #[.bool false, .slice none 0 0] 25) := hid ((Blk.new x2 #[.bool false, .slice none 0 0] 25).gr hg))); (try (have B3 := hid (B2.out.gr hg))); have HV1 := hid (HV1.out.gr (Gr.trans (by first | exact Gr.refl _ | exact Gr.alloc _ _) hg)); have HV3 := hid hv; clear hv hg)
        | (go_at_call 53; refine (HLW1.out _ (HG1.out.trans (‹Gr W1 _ ∧ _›).1)).mono ?_; rintro e x2 ⟨g2, rfl, hv, hg⟩; have GX2 := hid ((‹Gr W1 _ ∧ _›).1.trans hg); (try (have B2 : Hid (Blk x2 x1.heap.size #[.bool false, .slice none 0 0] 25) := hid ((Blk.new x1 #[.bool false, .slice none 0 0] 25).gr hg))); (try (have B2 := hid (B1.out.gr hg))); have HV1 := hid (HV1.out.gr (Gr.trans (by first | exact Gr.refl _ | exact Gr.alloc _ _) hg)); have HV2 := hid hv; clear hv hg)
        | (go_at_call 51; refine (HTP2.out _ (HG1.out.trans (‹Gr W1 _ ∧ _›).1)).mono ?_; rintro e x1 ⟨g1, rfl, hv, hg⟩; have GX1 := hid ((‹Gr W1 _ ∧ _›).1.trans hg); (try (have B1 : Hid (Blk x1 W1.heap.size #[.bool false, .slice none 0 0] 25) := hid ((Blk.new W1 #[.bool false, .slice none 0 0] 25).gr ((Gr.refl _).drew.trans hg)))); have HV1 := hid hv; clear hv hg))
    all_goals go_wp2_with fail
    all_goals go_meet
    all_goals refine hid ?_
    all_goals first
      | ((with_reducible refine int_at1 GX4.out HVJ.out ?_) <;> (first | exact Nat.le_refl _ | exact GX4.out.size | exact GX3.out.size | exact GX2.out.size | exact GX1.out.size))
      | exact int_at2 GX4.out HVJ.out B4.out (by first | exact GX3.out.size | (have := GX3.out.size; simp; omega)) (by first | exact Nat.le_refl _ | exact GX4.out.size | exact GX3.out.size | exact GX2.out.size | exact GX1.out.size) (by first | exact B3.out.lt | simp)
  case rest =>
  obtain ⟨W2, hwc⟩ : ∃ V, V = wc := ⟨_, rfl⟩
  subst hwc
  obtain ⟨b2, t2, C2, d2, e2, rfl, hb, hv, hg, hge⟩ := hcut.out
  have HW2 := hid hv
  have HX2 := hid hg
  have HBX2 := hid hb
  have HGE2 := hid hge
  clear hcut hb hv hg hge
  have n00 : W2.cell? ⟨w.heap.size, 0, none⟩ = some (.bool neg1) := Gr.cell HX2.out m00
  have n01 : W2.cell? ⟨w.heap.size, 1, none⟩ = some (.slice A1 l1 c1) := Gr.cell HX2.out m01
  have n02 : W2.cell? ⟨w.heap.size, 2, none⟩ = some (.slice A2 l2 c2) := Gr.cell HX2.out m02
  have n10 : W2.cell? ⟨w.heap.size + 1, 0, none⟩ = some (.bool neg2) := Gr.cell HX2.out m10
  have n11 : W2.cell? ⟨w.heap.size + 1, 1, none⟩ = some (.slice A3 l3 c3) := Gr.cell HX2.out m11
  have n12 : W2.cell? ⟨w.heap.size + 1, 2, none⟩ = some (.slice A4 l4 c4) := Gr.cell HX2.out m12
  have v10 : W2.cell? ⟨b1, 0, none⟩ = some (.bool t1) := (HBX1.out.gr HX2.out).c 0 rfl
  have v11 : W2.cell? ⟨b1, 1, none⟩ = some (.slice C1 d1 e1) := (HBX1.out.gr HX2.out).c 1 rfl
  have v20 : W2.cell? ⟨b2, 0, none⟩ = some (.bool t2) := HBX2.out.c 0 rfl
  have v21 : W2.cell? ⟨b2, 1, none⟩ = some (.slice C2 d2 e2) := HBX2.out.c 1 rfl
  have HW1 := hid (HW1.out.gr HX2.out)
  have HG2 := hid (HG1.out.trans HX2.out)
  have HXX := hid (HX1.out.trans HX2.out)
  clear m00 m01 m02 m10 m11 m12
  have hlr := HB0.out.lt
  have hb1 : w.heap.size + 1 + 1 < b1 := Nat.lt_of_lt_of_le hlr HGE1.out
  have hb2 : w.heap.size + 1 + 1 < b2 := Nat.lt_of_lt_of_le hlr (Nat.le_trans HX1.out.size HGE2.out)
  clear hlr
  have HB0 := hid (HB0.out.gr HXX.out)
  have HSW : Hid (W.heap.size ≤ W2.heap.size) := HXX.out.size
  go_upto_region 3 with (fail)
  go_region_held3 (fun V => V.cell? ⟨w.heap.size, 0, none⟩ = some (.bool neg1) ∧ V.cell? ⟨w.heap.size, 1, none⟩ = some (.slice A1 l1 c1) ∧ V.cell? ⟨w.heap.size, 2, none⟩ = some (.slice A2 l2 c2) ∧ V.cell? ⟨w.heap.size + 1, 0, none⟩ = some (.bool neg2) ∧ V.cell? ⟨w.heap.size + 1, 1, none⟩ = some (.slice A3 l3 c3) ∧ V.cell? ⟨w.heap.size + 1, 2, none⟩ = some (.slice A4 l4 c4) ∧ V.cell? ⟨b1, 0, none⟩ = some (.bool t1) ∧ V.cell? ⟨b1, 1, none⟩ = some (.slice C1 d1 e1) ∧ V.cell? ⟨b2, 0, none⟩ = some (.bool t2) ∧ V.cell? ⟨b2, 1, none⟩ = some (.slice C2 d2 e2))
    (first
      | exact ⟨n00, n01, n02, n10, n11, n12, v10, v11, v20, v21⟩
      | with_reducible exact ⟨Gr.cell HY1.out n00, Gr.cell HY1.out n01, Gr.cell HY1.out n02, Gr.cell HY1.out n10, Gr.cell HY1.out n11, Gr.cell HY1.out n12, Gr.cell HY1.out v10, Gr.cell HY1.out v11, Gr.cell HY1.out v20, Gr.cell HY1.out v21⟩
      | with_reducible exact ⟨Gr.cell HY2.out n00, Gr.cell HY2.out n01, Gr.cell HY2.out n02, Gr.cell HY2.out n10, Gr.cell HY2.out n11, Gr.cell HY2.out n12, Gr.cell HY2.out v10, Gr.cell HY2.out v11, Gr.cell HY2.out v20, Gr.cell HY2.out v21⟩
      | with_reducible exact ⟨Gr.cell HY3.out n00, Gr.cell HY3.out n01, Gr.cell HY3.out n02, Gr.cell HY3.out n10, Gr.cell HY3.out n11, Gr.cell HY3.out n12, Gr.cell HY3.out v10, Gr.cell HY3.out v11, Gr.cell HY3.out v20, Gr.cell HY3.out v21⟩
      | with_reducible exact ⟨Gr.cell HY4.out n00, Gr.cell HY4.out n01, Gr.cell HY4.out n02, Gr.cell HY4.out n10, Gr.cell HY4.out n11, Gr.cell HY4.out n12, Gr.cell HY4.out v10, Gr.cell HY4.out v11, Gr.cell HY4.out v20, Gr.cell HY4.out v21⟩
      | with_reducible exact ⟨Gr.cell HY5.out n00, Gr.cell HY5.out n01, Gr.cell HY5.out n02, Gr.cell HY5.out n10, Gr.cell HY5.out n11, Gr.cell HY5.out n12, Gr.cell HY5.out v10, Gr.cell HY5.out v11, Gr.cell HY5.out v20, Gr.cell HY5.out v21⟩
      | with_reducible exact ⟨set3 (by dsimp only; omega) (Gr.cell HY5.out n00), set3 (by dsimp only; omega) (Gr.cell HY5.out n01), set3 (by dsimp only; omega) (Gr.cell HY5.out n02), set3 (by dsimp only; omega) (Gr.cell HY5.out n10), set3 (by dsimp only; omega) (Gr.cell HY5.out n11), set3 (by dsimp only; omega) (Gr.cell HY5.out n12), set3 (by dsimp only; omega) (Gr.cell HY5.out v10), set3 (by dsimp only; omega) (Gr.cell HY5.out v11), set3 (by dsimp only; omega) (Gr.cell HY5.out v20), set3 (by dsimp only; omega) (Gr.cell HY5.out v21)⟩)
    (first
      | (go_at_call 46; refine (HRD.out x4 g1 g4 (HV14.out.az.le (by omega)) (HV4.out.an.le (by omega))).mono ?_; rintro e x5 ⟨vr, rfl, hm, hg⟩; obtain ⟨Az, nz, cz, Bz, kz, dz, rfl, hm⟩ := hm.form; obtain ⟨bb, hbb⟩ : ∃ b, b = decide (R.num < 0) := ⟨_, rfl⟩; rw [← hbb] at hm ⊢; have HVQ := hid (hm.base (b' := W2.heap.size) HY4.out.size); have HY5 := hid (HY4.out.trans hg); have rc00 := (HB0.out.gr HY5.out).c 0 rfl; have rf00 := (HB0.out.gr HY5.out).free 0; have rc01 := (HB0.out.gr HY5.out).c 1 rfl; have rf01 := (HB0.out.gr HY5.out).free 1; have rc02 := (HB0.out.gr HY5.out).c 2 rfl; have rf02 := (HB0.out.gr HY5.out).free 2; have rl0 := (HB0.out.gr HY5.out).lt; clear hm hg hbb)
      | (go_at_call 57; refine (xmul_c x3 g2 g3 k1 k2 L L HV23.out.an HV3.out.an (by omega) (by omega)).mono ?_; rintro e x4 ⟨g4, rfl, hv, hg⟩; have HV4 := hid hv; have HY4 := hid (HY3.out.trans hg); have HV14 := hid (HV13.out.gr hg); clear hv hg)
      | (go_at_call 53; refine (HLW2.out x2 (HG2.out.trans HY2.out)).mono ?_; rintro e x3 ⟨g3, rfl, hv, hg⟩; have HV3 := hid hv; have HY3 := hid (HY2.out.trans hg); have HV13 := hid (HV12.out.gr hg); have HV23 := hid (HV2.out.gr hg); clear hv hg)
      | (go_at_call 53; refine (HLW1.out x1 (HG2.out.trans HY1.out)).mono ?_; rintro e x2 ⟨g2, rfl, hv, hg⟩; have HV2 := hid hv; have HY2 := hid (HY1.out.trans hg); have HV12 := hid (HV1.out.gr hg); clear hv hg)
      | (go_at_call 56; refine (xzadd_c _ _ _ (z1 * (k2 : Int)) (z2 * (k1 : Int)) (L + L) (HW1.out.az.gr ((Gr.refl W2).drew)) (HW2.out.az.gr ((Gr.refl W2).drew)) (by omega)).mono ?_; rintro e x1 ⟨g1, rfl, hv, hg⟩; have HV1 := hid hv; have HY1 := hid (((Gr.refl W2).drew).trans hg); clear hv hg))
  go_wp2
  refine ratio_end rfl rfl rfl (HB0.out.gr HY5.out) ?_
  intro V hV
  have := HS.out
  have := HSW.out
  have l0 := HB0.out.lt
  have a1 := HVQ.out.exb hV (by omega)
  have a3 := (HG2.out.trans HY5.out).ex hV (by omega)
  have a4 := a1.base (b' := w.heap.size) (by omega)
  exact ⟨_, rfl, a4, a3⟩

set_option maxHeartbeats 8000000 in
theorem xrmul_c (w : World) (v1 v2 : Value) (p q : Rat) (L : Nat) (h1 : AQ w v1 p L) (h2 : AQ w v2 q L) (hL1 : 1 ≤ L) (hL : L ≤ 34359738368) :
    Calls Try.prog 25 #[v1, v2] w (Ret w fun v w' => VQ w' w.heap.size v (p * q) (2 * L + 1)) := by
  obtain ⟨neg1, A1, l1, c1, A2, l2, c2, z1, k1, rfl, hk1, hq1, HTP1, HLW1⟩ := xtl w v1 p L h1 hL1 (by omega)
  obtain ⟨neg2, A3, l3, c3, A4, l4, c4, z2, k2, rfl, hk2, hq2, HTP2, HLW2⟩ := xtl w v2 q L h2 hL1 (by omega)
  obtain ⟨R, hR⟩ : ∃ R, R = p * q := ⟨_, rfl⟩
  rw [← hR]
  have HRD : Hid (∀ (V : World) (a b : Value), AZ V a (z1 * z2) (2 * L + 1) → AN V b (k1 * k2) (2 * L + 1) → Calls Try.prog 46 #[a, b] V (Ret V fun v w' => VQ w' V.heap.size v R (2 * L + 1))) := fun V a b ha hb => by
    have h := xreduce_c V a b (z1 * z2) (k1 * k2) (2 * L + 1) ha hb (by exact Nat.mul_pos hk1 hk2) (by omega) (by omega)
    rwa [show mkRat (z1 * z2) (k1 * k2) = R by rw [hR, hq1, hq2]; exact (Rat.mkRat_mul_mkRat _ _ _ _).symm] at h
  clear hR hk1 hk2 hq1 hq2 h1 h2
  go_enter Try.func25, Try.ntmps25
  go_wp2
  obtain ⟨W, hW⟩ : ∃ W, W = ((w.alloc (.cells #[.bool neg1, .slice A1 l1 c1, .slice A2 l2 c2] 27)).alloc (.cells #[.bool neg2, .slice A3 l3 c3, .slice A4 l4 c4] 27)).alloc (.cells #[.bool false, .slice none 0 0, .slice none 0 0] 27) := ⟨_, rfl⟩
  obtain ⟨hg, b0, b1, b2⟩ := al3 w #[.bool neg1, .slice A1 l1 c1, .slice A2 l2 c2] #[.bool neg2, .slice A3 l3 c3, .slice A4 l4 c4] #[.bool false, .slice none 0 0, .slice none 0 0] 27 27 27
  rw [← hW] at hg b0 b1 b2 ⊢
  clear hW
  have c00 : W.cell? ⟨w.heap.size, 0, none⟩ = some (.bool neg1) := b0.c 0 rfl
  have c01 : W.cell? ⟨w.heap.size, 1, none⟩ = some (.slice A1 l1 c1) := b0.c 1 rfl
  have c02 : W.cell? ⟨w.heap.size, 2, none⟩ = some (.slice A2 l2 c2) := b0.c 2 rfl
  have c10 : W.cell? ⟨w.heap.size + 1, 0, none⟩ = some (.bool neg2) := b1.c 0 rfl
  have c11 : W.cell? ⟨w.heap.size + 1, 1, none⟩ = some (.slice A3 l3 c3) := b1.c 1 rfl
  have c12 : W.cell? ⟨w.heap.size + 1, 2, none⟩ = some (.slice A4 l4 c4) := b1.c 2 rfl
  have HB0 := hid b2
  have HG := hid hg
  have HS : Hid (w.heap.size < W.heap.size) := by have h := b2.lt; unfold Hid; omega
  clear hg b0 b1 b2
  go_region_held3 (fun V => V.cell? ⟨w.heap.size, 0, none⟩ = some (.bool neg1) ∧ V.cell? ⟨w.heap.size, 1, none⟩ = some (.slice A1 l1 c1) ∧ V.cell? ⟨w.heap.size, 2, none⟩ = some (.slice A2 l2 c2) ∧ V.cell? ⟨w.heap.size + 1, 0, none⟩ = some (.bool neg2) ∧ V.cell? ⟨w.heap.size + 1, 1, none⟩ = some (.slice A3 l3 c3) ∧ V.cell? ⟨w.heap.size + 1, 2, none⟩ = some (.slice A4 l4 c4))
    (first
      | exact ⟨c00, c01, c02, c10, c11, c12⟩
      | with_reducible exact ⟨Gr.cell HX1.out c00, Gr.cell HX1.out c01, Gr.cell HX1.out c02, Gr.cell HX1.out c10, Gr.cell HX1.out c11, Gr.cell HX1.out c12⟩
      | with_reducible exact ⟨Gr.cell HX2.out c00, Gr.cell HX2.out c01, Gr.cell HX2.out c02, Gr.cell HX2.out c10, Gr.cell HX2.out c11, Gr.cell HX2.out c12⟩
      | with_reducible exact ⟨Gr.cell HX3.out c00, Gr.cell HX3.out c01, Gr.cell HX3.out c02, Gr.cell HX3.out c10, Gr.cell HX3.out c11, Gr.cell HX3.out c12⟩
      | with_reducible exact ⟨Gr.cell HX4.out c00, Gr.cell HX4.out c01, Gr.cell HX4.out c02, Gr.cell HX4.out c10, Gr.cell HX4.out c11, Gr.cell HX4.out c12⟩
      | with_reducible exact ⟨Gr.cell HX5.out c00, Gr.cell HX5.out c01, Gr.cell HX5.out c02, Gr.cell HX5.out c10, Gr.cell HX5.out c11, Gr.cell HX5.out c12⟩
      | with_reducible exact ⟨Gr.cell HX6.out c00, Gr.cell HX6.out c01, Gr.cell HX6.out c02, Gr.cell HX6.out c10, Gr.cell HX6.out c11, Gr.cell HX6.out c12⟩
      | with_reducible exact ⟨Gr.cell HX7.out c00, Gr.cell HX7.out c01, Gr.cell HX7.out c02, Gr.cell HX7.out c10, Gr.cell HX7.out c11, Gr.cell HX7.out c12⟩
      | with_reducible exact ⟨set3 (by dsimp only; omega) (Gr.cell HX7.out c00), set3 (by dsimp only; omega) (Gr.cell HX7.out c01), set3 (by dsimp only; omega) (Gr.cell HX7.out c02), set3 (by dsimp only; omega) (Gr.cell HX7.out c10), set3 (by dsimp only; omega) (Gr.cell HX7.out c11), set3 (by dsimp only; omega) (Gr.cell HX7.out c12)⟩)
    (first
      | (go_at_call 46; refine (HRD.out x6 g3 g6 (HV36.out.az.le (by omega)) (HV6.out.an.le (by omega))).mono ?_; rintro e x7 ⟨vr, rfl, hm, hg⟩; obtain ⟨Az, nz, cz, Bz, kz, dz, rfl, hm⟩ := hm.form; obtain ⟨bb, hbb⟩ : ∃ b, b = decide (R.num < 0) := ⟨_, rfl⟩; rw [← hbb] at hm ⊢; have HVQ := hid (hm.base (b' := W.heap.size) HX6.out.size); have HX7 := hid (HX6.out.trans hg); have rc00 := (HB0.out.gr HX7.out).c 0 rfl; have rf00 := (HB0.out.gr HX7.out).free 0; have rc01 := (HB0.out.gr HX7.out).c 1 rfl; have rf01 := (HB0.out.gr HX7.out).free 1; have rc02 := (HB0.out.gr HX7.out).c 2 rfl; have rf02 := (HB0.out.gr HX7.out).free 2; have rl0 := (HB0.out.gr HX7.out).lt; clear hm hg hbb)
      | (go_at_call 57; refine (xmul_c x5 g4 g5 k1 k2 L L HV45.out.an HV5.out.an (by omega) (by omega)).mono ?_; rintro e x6 ⟨g6, rfl, hv, hg⟩; have HV6 := hid hv; have HX6 := hid (HX5.out.trans hg); have HV36 := hid (HV35.out.gr hg); clear hv hg)
      | (go_at_call 53; refine (HLW2.out x4 (HG.out.trans HX4.out)).mono ?_; rintro e x5 ⟨g5, rfl, hv, hg⟩; have HV5 := hid hv; have HX5 := hid (HX4.out.trans hg); have HV35 := hid (HV34.out.gr hg); have HV45 := hid (HV4.out.gr hg); clear hv hg)
      | (go_at_call 53; refine (HLW1.out x3 (HG.out.trans HX3.out)).mono ?_; rintro e x4 ⟨g4, rfl, hv, hg⟩; have HV4 := hid hv; have HX4 := hid (HX3.out.trans hg); have HV34 := hid (HV3.out.gr hg); clear hv hg)
      | (go_at_call 50; refine (xzmul_c x2 g1 g2 z1 z2 L L HV12.out.az HV2.out.az (by omega) (by omega)).mono ?_; rintro e x3 ⟨g3, rfl, hv, hg⟩; have HV3 := hid hv; have HX3 := hid (HX2.out.trans hg); clear hv hg)
      | (go_at_call 51; refine (HTP2.out x1 (HG.out.trans HX1.out)).mono ?_; rintro e x2 ⟨g2, rfl, hv, hg⟩; have HV2 := hid hv; have HX2 := hid (HX1.out.trans hg); have HV12 := hid (HV1.out.gr hg); clear hv hg)
      | (go_at_call 51; refine (HTP1.out _ (HG.out.trans ((Gr.refl W).drew))).mono ?_; rintro e x1 ⟨g1, rfl, hv, hg⟩; have HV1 := hid hv; have HX1 := hid (((Gr.refl W).drew).trans hg); clear hv hg))
  go_wp2
  refine ratio_end rfl rfl rfl (HB0.out.gr HX7.out) ?_
  intro V hV
  have := HS.out
  have l0 := HB0.out.lt
  have a1 := HVQ.out.exb hV (by omega)
  have a3 := (HG.out.trans HX7.out).ex hV (by omega)
  have a4 := a1.base (b' := w.heap.size) (by omega)
  exact ⟨_, rfl, a4, a3⟩
end Go.Proofs.Ytkbgdiejjabdmaa
