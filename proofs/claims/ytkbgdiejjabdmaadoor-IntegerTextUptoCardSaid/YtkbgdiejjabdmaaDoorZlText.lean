/- The walk of the law IntegerText. -/
import Derived.Test.YtkbgdiejjabdmaaDoorIzB
import Derived.Test.YtkbgdiejjabdmaaDoorRhA
import Derived.Test.YtkbgdiejjabdmaaDoorIzW
import Derived.Deep.Cut
import Derived.Deep.RegionHeld3
namespace Go.Proofs.YtkbgdiejjabdmaaDoor
open Go.RowKit

set_option maxRecDepth 100000 in
set_option maxHeartbeats 16000000 in
theorem integertext_law (W : World) (ht : Tab W) {s : ByteArray} (hs : s.size ≤ 1048576) {s1 : Bool} {A1 : Option Addr} {l1 c1 n1 : Nat} (h1 : AN W (.slice A1 l1 c1) n1 1048576) : Calls Tryd.prog 12 #[.string s, .agg #[.bool s1, .slice A1 l1 c1]] W (Is W (.bool true)) := by
  have HT := hid ht
  obtain ⟨a, hz1⟩ : ∃ z, z = sgnd s1 n1 := ⟨_, rfl⟩
  have KA : Hid (AZ W (.agg #[.bool s1, .slice A1 l1 c1]) a 1048576) := ⟨s1, _, n1, rfl, h1, hz1⟩
  obtain ⟨er, her⟩ : ∃ e, e = zErr s.data.toList := ⟨_, rfl⟩
  obtain ⟨z, hz⟩ : ∃ e, e = zVal s.data.toList := ⟨_, rfl⟩
  have HF1 : Hid (∀ V : World, Calls Tryd.prog 50 #[.string s] V (RetE V er fun v w' => VZ w' V.heap.size v z 400)) := fun V => by rw [her, hz]; exact zparse_c V s (by omega)
  have HF2 : Hid (∀ V : World, Calls Tryd.prog 51 #[.string s] V (RetE V er fun v w' => VZ w' V.heap.size v z 400)) := fun V => by rw [her, hz]; exact xzparse_c V s (by omega)
  obtain ⟨S, hS⟩ : ∃ S : ByteArray, S = ⟨(Lib.itoa a).toArray⟩ := ⟨_, rfl⟩
  have HP1 : Hid (∀ (V : World) (v : Value), Tab V → AZ V v a 1048576 → Calls Tryd.prog 53 #[v] V (Is V (.string S))) := fun V v h1 h2 => by rw [hS]; exact zprint_c V v a 1048576 h2 (by decide) h1
  have HP2 : Hid (∀ (V : World) (v : Value), AZ V v a 1048576 → Calls Tryd.prog 54 #[v] V (Is V (.string S))) := fun V v h2 => by rw [hS]; exact xzprint_c V v a 1048576 h2 (by decide)
  have hee : (er == er) = true := by simp
  have HS1 : Hid (∀ (V : World) (b1 b2 : Nat) (u v : Value), VZ V b1 u (z) 400 → VZ V b2 v (z) 400 → Calls Tryd.prog 52 #[u, v] V (Is V (.bool true))) := fun V b1 b2 u v h1 h2 => by
    have h := zsame_c V b1 b2 u v _ _ 400 (h1.le (by decide)) (h2.le (by decide)) (by decide)
    rw [decide_eq_true rfl] at h
    exact h
  clear ht hs hz1 h1 her hz hS
  go_enter Tryd.func12, Tryd.ntmps12
  go_upto_region 1 with (fail)
  obtain ⟨W0, hW⟩ : ∃ V, V = W.alloc (.cells #[.bool s1, .slice A1 l1 c1] 51) := ⟨_, rfl⟩
  obtain ⟨hg, bb0⟩ := al1 W #[.bool s1, .slice A1 l1 c1] 51
  rw [← hW] at hg bb0 ⊢
  clear hW
  have c10 : W0.cell? ⟨W.heap.size, 0, none⟩ = some (.bool s1) := bb0.c 0 rfl
  have c11 : W0.cell? ⟨W.heap.size, 1, none⟩ = some (.slice A1 l1 c1) := bb0.c 1 rfl
  have KA := hid (KA.out.gr hg)
  have HG := hid hg
  clear hg bb0
  go_wp2_with fail
  refine (HF1.out W0).mono ?_
  rintro e w1 ⟨v1, rfl, hv, hg⟩
  have k1_c10 := Gr.cell hg c10
  have k1_c11 := Gr.cell hg c11
  clear c10 c11
  replace KA := hid (KA.out.gr hg)
  replace HG := hid (HG.out.trans hg)
  clear hg
  obtain ⟨Ax, lx, cx, rfl, hv⟩ := hv.form
  obtain ⟨bsx, hs⟩ : ∃ y0, y0 = decide ((z : Int) < 0) := ⟨_, rfl⟩
  rw [← hs] at hv ⊢
  clear hs
  have KX := hid hv
  clear hv
  obtain ⟨W1, hW⟩ : ∃ V, V = w1.alloc (.cells #[.bool bsx, .slice Ax lx cx] 51) := ⟨_, rfl⟩
  go_upto_region 2 with (fail)
  obtain ⟨hg, bb⟩ := al1 w1 #[.bool bsx, .slice Ax lx cx] 51
  rw [← hW] at hg bb ⊢
  clear hW
  have k2_c10 := Gr.cell hg k1_c10
  have k2_c11 := Gr.cell hg k1_c11
  clear k1_c10 k1_c11
  replace KA := hid (KA.out.gr hg)
  replace KX := hid (KX.out.gr hg)
  replace HG := hid (HG.out.trans hg)
  have cx0 : W1.cell? ⟨w1.heap.size, 0, none⟩ = some (.bool bsx) := bb.c 0 rfl
  have cx1 : W1.cell? ⟨w1.heap.size, 1, none⟩ = some (.slice Ax lx cx) := bb.c 1 rfl
  clear hg bb
  go_wp2_with fail
  refine (HF2.out W1).mono ?_
  rintro e w2 ⟨v2, rfl, hv, hg⟩
  have k3_c10 := Gr.cell hg k2_c10
  have k3_c11 := Gr.cell hg k2_c11
  have k3_cx0 := Gr.cell hg cx0
  have k3_cx1 := Gr.cell hg cx1
  clear k2_c10 k2_c11 cx0 cx1
  replace KA := hid (KA.out.gr hg)
  replace KX := hid (KX.out.gr hg)
  replace HG := hid (HG.out.trans hg)
  clear hg
  obtain ⟨Ay, ly, cy, rfl, hv⟩ := hv.form
  obtain ⟨bsy, hs⟩ : ∃ y0, y0 = decide ((z : Int) < 0) := ⟨_, rfl⟩
  rw [← hs] at hv ⊢
  clear hs
  have KY := hid hv
  clear hv
  obtain ⟨W2, hW⟩ : ∃ V, V = w2.alloc (.cells #[.bool bsy, .slice Ay ly cy] 51) := ⟨_, rfl⟩
  go_upto_region 3 with (fail)
  obtain ⟨hg, bb⟩ := al1 w2 #[.bool bsy, .slice Ay ly cy] 51
  rw [← hW] at hg bb ⊢
  clear hW
  have k4_c10 := Gr.cell hg k3_c10
  have k4_c11 := Gr.cell hg k3_c11
  have k4_cx0 := Gr.cell hg k3_cx0
  have k4_cx1 := Gr.cell hg k3_cx1
  clear k3_c10 k3_c11 k3_cx0 k3_cx1
  replace KA := hid (KA.out.gr hg)
  replace KX := hid (KX.out.gr hg)
  replace KY := hid (KY.out.gr hg)
  replace HG := hid (HG.out.trans hg)
  have cy0 : W2.cell? ⟨w2.heap.size, 0, none⟩ = some (.bool bsy) := bb.c 0 rfl
  have cy1 : W2.cell? ⟨w2.heap.size, 1, none⟩ = some (.slice Ay ly cy) := bb.c 1 rfl
  clear hg bb
  go_region_held3 (fun V => V.cell? ⟨W.heap.size, 0, none⟩ = some (.bool s1) ∧ V.cell? ⟨W.heap.size, 1, none⟩ = some (.slice A1 l1 c1) ∧ V.cell? ⟨w1.heap.size, 0, none⟩ = some (.bool bsx) ∧ V.cell? ⟨w1.heap.size, 1, none⟩ = some (.slice Ax lx cx) ∧ V.cell? ⟨w2.heap.size, 0, none⟩ = some (.bool bsy) ∧ V.cell? ⟨w2.heap.size, 1, none⟩ = some (.slice Ay ly cy))
    (first
      | exact ⟨k4_c10, k4_c11, k4_cx0, k4_cx1, cy0, cy1⟩
      | with_reducible exact ⟨Gr.cell HX1.out k4_c10, Gr.cell HX1.out k4_c11, Gr.cell HX1.out k4_cx0, Gr.cell HX1.out k4_cx1, Gr.cell HX1.out cy0, Gr.cell HX1.out cy1⟩
      | with_reducible exact ⟨Gr.cell HX2.out k4_c10, Gr.cell HX2.out k4_c11, Gr.cell HX2.out k4_cx0, Gr.cell HX2.out k4_cx1, Gr.cell HX2.out cy0, Gr.cell HX2.out cy1⟩
      | with_reducible exact ⟨Gr.cell HX3.out k4_c10, Gr.cell HX3.out k4_c11, Gr.cell HX3.out k4_cx0, Gr.cell HX3.out k4_cx1, Gr.cell HX3.out cy0, Gr.cell HX3.out cy1⟩
      | with_reducible exact ⟨Gr.cell HX4.out k4_c10, Gr.cell HX4.out k4_c11, Gr.cell HX4.out k4_cx0, Gr.cell HX4.out k4_cx1, Gr.cell HX4.out cy0, Gr.cell HX4.out cy1⟩)
    (first
      | (go_at_call 55; refine (awake2_c x3 (HT.out.gr (HG.out.trans HX3.out))).mono ?_; rintro e w9 ⟨rfl, hg⟩; have HX4 := hid (HX3.out.trans hg); clear hg)
      | (go_at_call 54; refine (HP2.out x2 _ (KA.out.gr HX2.out)).mono ?_; rintro e x3 ⟨rfl, hg⟩; have HX3 := hid (HX2.out.trans hg); clear hg)
      | (go_at_call 53; refine (HP1.out x1 _ (HT.out.gr (HG.out.trans HX1.out)) (KA.out.gr HX1.out)).mono ?_; rintro e x2 ⟨rfl, hg⟩; have HX2 := hid (HX1.out.trans hg); clear hg)
      | (go_at_call 52; refine (HS1.out _ _ _ _ _ (KX.out.gr ((Gr.refl W2).drew)) (KY.out.gr ((Gr.refl W2).drew))).mono ?_; rintro e x1 ⟨rfl, hg⟩; have HX1 := hid (((Gr.refl W2).drew).trans hg); clear hg))
  have k5_c10 := Gr.cell HX4.out k4_c10
  have k5_c11 := Gr.cell HX4.out k4_c11
  have k5_cx0 := Gr.cell HX4.out k4_cx0
  have k5_cx1 := Gr.cell HX4.out k4_cx1
  have k5_cy0 := Gr.cell HX4.out cy0
  have k5_cy1 := Gr.cell HX4.out cy1
  clear k4_c10 k4_c11 k4_cx0 k4_cx1 cy0 cy1
  replace KA := hid (KA.out.gr HX4.out)
  replace KX := hid (KX.out.gr HX4.out)
  replace KY := hid (KY.out.gr HX4.out)
  replace HG := hid (HG.out.trans HX4.out)
  clear HX1 HX2 HX3 HX4
  go_wp2
  go_ret
  exact ⟨rfl, HG.out⟩
end Go.Proofs.YtkbgdiejjabdmaaDoor
