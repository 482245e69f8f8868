/- The walk of the law IntegerForms. -/
import Derived.Test.YtkbgdiejjabdmaaDoorIzB
import Derived.Test.YtkbgdiejjabdmaaDoorIntC
import Derived.Test.YtkbgdiejjabdmaaDoorIzW
import Derived.Deep.Cut
import Derived.Deep.RegionHeld3
namespace Go.Proofs.YtkbgdiejjabdmaaDoor
open Go.RowKit

set_option maxRecDepth 100000 in
set_option maxHeartbeats 16000000 in
theorem integerforms_law (W : World) (ht : Tab W) {n : Int} (hn0 : -9223372036854775808 ≤ n) (hn1 : n ≤ 9223372036854775807) {s1 : Bool} {A1 : Option Addr} {l1 c1 n1 : Nat} (h1 : AN W (.slice A1 l1 c1) n1 1048576) : Calls Tryd.prog 14 #[.int .i64 n, .agg #[.bool s1, .slice A1 l1 c1]] W (Is W (.bool true)) := by
  have HT := hid ht
  obtain ⟨a, hz1⟩ : ∃ z, z = sgnd s1 n1 := ⟨_, rfl⟩
  have KA : Hid (AZ W (.agg #[.bool s1, .slice A1 l1 c1]) a 1048576) := ⟨s1, _, n1, rfl, h1, hz1⟩
  have HAN := hid h1
  have HO1 : Hid (∀ V : World, Calls Tryd.prog 57 #[.int .i64 n] V (Ret V fun v w' => VZ w' V.heap.size v n 2)) := fun V => zof_c V n hn0 hn1
  have HO2 : Hid (∀ V : World, Calls Tryd.prog 62 #[.int .i64 n] V (Ret V fun v w' => VZ w' V.heap.size v n 2)) := fun V => xzof_c V n hn0 hn1
  obtain ⟨I, hI⟩ : ∃ i, i = i64N a := ⟨_, rfl⟩
  obtain ⟨B, hB⟩ : ∃ i, i = i64B a := ⟨_, rfl⟩
  obtain ⟨sg, hsg⟩ : ∃ i, i = a.sign := ⟨_, rfl⟩
  have HI1 : Hid (∀ (V : World) (v : Value), AZ V v a 1048576 → Calls Tryd.prog 56 #[v] V (Is V (.tuple #[.int .i64 I, .bool B]))) := fun V v h => by rw [hI, hB]; exact zint64_c V v a 1048576 h (by decide)
  have HI2 : Hid (∀ (V : World) (v : Value), AZ V v a 1048576 → Calls Tryd.prog 59 #[v] V (Is V (.tuple #[.int .i64 I, .bool B]))) := fun V v h => by rw [hI, hB]; exact xzint64_c V v a 1048576 h (by decide)
  have HG1 : Hid (∀ (V : World) (v : Value), AZ V v a 1048576 → Calls Tryd.prog 60 #[v] V (Is V (.int .i64 sg))) := fun V v h => by rw [hsg]; exact sign_c V v a 1048576 h (by decide)
  have HG2 : Hid (∀ (V : World) (v : Value), AZ V v a 1048576 → Calls Tryd.prog 61 #[v] V (Is V (.int .i64 sg))) := fun V v h => by rw [hsg]; exact xzsign_c V v a 1048576 h (by decide)
  have hII : (I != I) = false := by simp
  have hBB : (B != B) = false := by simp
  have hss : (sg != sg) = false := by simp
  have HS1 : Hid (∀ (V : World) (b1 b2 : Nat) (u v : Value), VZ V b1 u (n) 2 → VZ V b2 v (n) 2 → Calls Tryd.prog 52 #[u, v] V (Is V (.bool true))) := fun V b1 b2 u v h1 h2 => by
    have h := zsame_c V b1 b2 u v _ _ 2 (h1.le (by decide)) (h2.le (by decide)) (by decide)
    rw [decide_eq_true rfl] at h
    exact h
  have HS2 : Hid (∀ (V : World) (b1 b2 : Nat) (u v : Value), VZ V b1 u (a) 1048576 → VZ V b2 v (a) 1048576 → Calls Tryd.prog 52 #[u, v] V (Is V (.bool true))) := fun V b1 b2 u v h1 h2 => by
    have h := zsame_c V b1 b2 u v _ _ 1048576 (h1.le (by decide)) (h2.le (by decide)) (by decide)
    rw [decide_eq_true rfl] at h
    exact h
  have HS3 : Hid (∀ (V : World) (b1 b2 : Nat) (u v : Value), VZ V b1 u (-a) 1048576 → VZ V b2 v (-a) 1048576 → Calls Tryd.prog 52 #[u, v] V (Is V (.bool true))) := fun V b1 b2 u v h1 h2 => by
    have h := zsame_c V b1 b2 u v _ _ 1048576 (h1.le (by decide)) (h2.le (by decide)) (by decide)
    rw [decide_eq_true rfl] at h
    exact h
  have HM1 : Hid (∀ V : World, AN V (.slice A1 l1 c1) n1 1048576 → Calls Tryd.prog 63 #[.bool s1, .slice A1 l1 c1] V (Ret V fun v w' => VZ w' V.heap.size v a 1048576)) := fun V h => by rw [hz1]; exact make_c V s1 _ n1 1048576 h (by decide)
  have HM2 : Hid (∀ V : World, AN V (.slice A1 l1 c1) n1 1048576 → Calls Tryd.prog 64 #[.bool s1, .slice A1 l1 c1] V (Ret V fun v w' => VZ w' V.heap.size v a 1048576)) := fun V h => by rw [hz1]; exact xzmake_c V s1 _ n1 1048576 h (by decide)
  clear ht hn0 hn1 hz1 h1 hI hB hsg
  go_enter Tryd.func14, Tryd.ntmps14
  go_upto_region 1 with (fail)
  obtain ⟨W0, hW⟩ : ∃ V, V = W.alloc (.cells #[.bool s1, .slice A1 l1 c1] 51) := ⟨_, rfl⟩
  obtain ⟨hg, bb0⟩ := al1 W #[.bool s1, .slice A1 l1 c1] 51
  rw [← hW] at hg bb0 ⊢
  clear hW
  have c10 : W0.cell? ⟨W.heap.size, 0, none⟩ = some (.bool s1) := bb0.c 0 rfl
  have c11 : W0.cell? ⟨W.heap.size, 1, none⟩ = some (.slice A1 l1 c1) := bb0.c 1 rfl
  have KA := hid (KA.out.gr hg)
  have HG := hid hg
  clear hg bb0
  have HAN := hid (HAN.out.gr HG.out)
  go_wp2_with fail
  refine (HI1.out W0 _ KA.out).mono ?_
  rintro e w1 ⟨rfl, hg⟩
  have k1_c10 := Gr.cell hg c10
  have k1_c11 := Gr.cell hg c11
  clear c10 c11
  replace KA := hid (KA.out.gr hg)
  replace HAN := hid (HAN.out.gr hg)
  replace HG := hid (HG.out.trans hg)
  clear hg
  go_wp2_with fail
  refine (HI2.out w1 _ KA.out).mono ?_
  rintro e w2 ⟨rfl, hg⟩
  have k2_c10 := Gr.cell hg k1_c10
  have k2_c11 := Gr.cell hg k1_c11
  clear k1_c10 k1_c11
  replace KA := hid (KA.out.gr hg)
  replace HAN := hid (HAN.out.gr hg)
  replace HG := hid (HG.out.trans hg)
  clear hg
  go_wp2
  go_region_held3 (fun V => V.cell? ⟨W.heap.size, 0, none⟩ = some (.bool s1) ∧ V.cell? ⟨W.heap.size, 1, none⟩ = some (.slice A1 l1 c1))
    (first
      | exact ⟨k2_c10, k2_c11⟩
      | with_reducible exact ⟨Gr.cell HX1.out k2_c10, Gr.cell HX1.out k2_c11⟩
      | with_reducible exact ⟨Gr.cell HX2.out k2_c10, Gr.cell HX2.out k2_c11⟩)
    (first
      | (go_at_call 61; refine (HG2.out x1 _ (KA.out.gr HX1.out)).mono ?_; rintro e w3 ⟨rfl, hg⟩; have HX2 := hid (HX1.out.trans hg); clear hg)
      | (go_at_call 60; refine (HG1.out _ _ (KA.out.gr ((Gr.refl w2).drew))).mono ?_; rintro e x1 ⟨rfl, hg⟩; have HX1 := hid (((Gr.refl w2).drew).trans hg); clear hg))
  have k3_c10 := Gr.cell HX2.out k2_c10
  have k3_c11 := Gr.cell HX2.out k2_c11
  clear k2_c10 k2_c11
  replace KA := hid (KA.out.gr HX2.out)
  replace HAN := hid (HAN.out.gr HX2.out)
  replace HG := hid (HG.out.trans HX2.out)
  clear HX1 HX2
  go_wp2
  go_region_held3 (fun V => V.cell? ⟨W.heap.size, 0, none⟩ = some (.bool s1) ∧ V.cell? ⟨W.heap.size, 1, none⟩ = some (.slice A1 l1 c1))
    (first
      | exact ⟨k3_c10, k3_c11⟩
      | with_reducible exact ⟨Gr.cell HX1.out k3_c10, Gr.cell HX1.out k3_c11⟩
      | with_reducible exact ⟨Gr.cell HX2.out k3_c10, Gr.cell HX2.out k3_c11⟩
      | with_reducible exact ⟨Gr.cell HX3.out k3_c10, Gr.cell HX3.out k3_c11⟩
      | with_reducible exact ⟨Gr.cell HX4.out k3_c10, Gr.cell HX4.out k3_c11⟩
      | with_reducible exact ⟨Gr.cell HX5.out k3_c10, Gr.cell HX5.out k3_c11⟩
      | with_reducible exact ⟨Gr.cell HX6.out k3_c10, Gr.cell HX6.out k3_c11⟩)
    (first
      | (go_at_call 52; refine (HS2.out x5 _ _ _ _ HV4_5.out HV5_5.out).mono ?_; rintro e w4 ⟨rfl, hg⟩; have HX6 := hid (HX5.out.trans hg); clear hg)
      | (go_at_call 64; refine (HM2.out x4 (HAN.out.gr HX4.out)).mono ?_; rintro e x5 ⟨g5, rfl, hv, hg⟩; have HX5 := hid (HX4.out.trans hg); have HV5_5 := hid hv; have HV4_5 := hid (HV4_4.out.gr hg); clear hv hg)
      | (go_at_call 63; refine (HM1.out x3 (HAN.out.gr HX3.out)).mono ?_; rintro e x4 ⟨g4, rfl, hv, hg⟩; have HX4 := hid (HX3.out.trans hg); have HV4_4 := hid hv; clear hv hg)
      | (go_at_call 52; refine (HS1.out x2 _ _ _ _ HV1_2.out HV2_2.out).mono ?_; rintro e x3 ⟨rfl, hg⟩; have HX3 := hid (HX2.out.trans hg); clear hg)
      | (go_at_call 62; refine (HO2.out x1).mono ?_; rintro e x2 ⟨g2, rfl, hv, hg⟩; have HX2 := hid (HX1.out.trans hg); have HV2_2 := hid hv; have HV1_2 := hid (HV1_1.out.gr hg); clear hv hg)
      | (go_at_call 57; refine (HO1.out _).mono ?_; rintro e x1 ⟨g1, rfl, hv, hg⟩; have HX1 := hid (((Gr.refl w3).drew).trans hg); have HV1_1 := hid hv; clear hv hg))
  have k4_c10 := Gr.cell HX6.out k3_c10
  have k4_c11 := Gr.cell HX6.out k3_c11
  clear k3_c10 k3_c11
  replace KA := hid (KA.out.gr HX6.out)
  replace HAN := hid (HAN.out.gr HX6.out)
  replace HG := hid (HG.out.trans HX6.out)
  clear HX1 HX2 HX3 HX4 HX5 HX6
  go_wp2
  go_region_held3 (fun V => V.cell? ⟨W.heap.size, 0, none⟩ = some (.bool s1) ∧ V.cell? ⟨W.heap.size, 1, none⟩ = some (.slice A1 l1 c1))
    (first
      | exact ⟨k4_c10, k4_c11⟩
      | with_reducible exact ⟨Gr.cell HX1.out k4_c10, Gr.cell HX1.out k4_c11⟩
      | with_reducible exact ⟨Gr.cell HX2.out k4_c10, Gr.cell HX2.out k4_c11⟩
      | with_reducible exact ⟨Gr.cell HX3.out k4_c10, Gr.cell HX3.out k4_c11⟩
      | with_reducible exact ⟨Gr.cell HX4.out k4_c10, Gr.cell HX4.out k4_c11⟩
      | with_reducible exact ⟨Gr.cell HX5.out k4_c10, Gr.cell HX5.out k4_c11⟩
      | with_reducible exact ⟨Gr.cell HX6.out k4_c10, Gr.cell HX6.out k4_c11⟩
      | with_reducible exact ⟨Gr.cell HX7.out k4_c10, Gr.cell HX7.out k4_c11⟩)
    (first
      | (go_at_call 55; refine (awake2_c x6 (HT.out.gr (HG.out.trans HX6.out))).mono ?_; rintro e w5 ⟨rfl, hg⟩; have HX7 := hid (HX6.out.trans hg); clear hg)
      | (go_at_call 52; refine (HS3.out x5 _ _ _ _ HV4_5.out HV5_5.out).mono ?_; rintro e x6 ⟨rfl, hg⟩; have HX6 := hid (HX5.out.trans hg); clear hg)
      | (go_at_call 67; refine (xzneg_c x4 _ a 1048576 (KA.out.gr HX4.out) (by decide)).mono ?_; rintro e x5 ⟨g5, rfl, hv, hg⟩; have HX5 := hid (HX4.out.trans hg); have HV5_5 := hid hv; have HV4_5 := hid (HV4_4.out.gr hg); clear hv hg)
      | (go_at_call 66; refine (zneg_c x3 _ a 1048576 (KA.out.gr HX3.out) (by decide)).mono ?_; rintro e x4 ⟨g4, rfl, hv, hg⟩; have HX4 := hid (HX3.out.trans hg); have HV4_4 := hid hv; clear hv hg)
      | (go_at_call 52; refine (HS2.out x2 _ _ _ _ HV1_2.out HV2_2.out).mono ?_; rintro e x3 ⟨rfl, hg⟩; have HX3 := hid (HX2.out.trans hg); clear hg)
      | (go_at_call 65; refine (xznorm_c x1 _ a 1048576 (KA.out.gr HX1.out) (by decide)).mono ?_; rintro e x2 ⟨g2, rfl, hv, hg⟩; have HX2 := hid (HX1.out.trans hg); have HV2_2 := hid hv; have HV1_2 := hid (HV1_1.out.gr hg); clear hv hg)
      | (go_at_call 58; refine (znorm_c _ _ a 1048576 (KA.out.gr ((Gr.refl w4).drew)) (by decide)).mono ?_; rintro e x1 ⟨g1, rfl, hv, hg⟩; have HX1 := hid (((Gr.refl w4).drew).trans hg); have HV1_1 := hid hv; clear hv hg))
  have k5_c10 := Gr.cell HX7.out k4_c10
  have k5_c11 := Gr.cell HX7.out k4_c11
  clear k4_c10 k4_c11
  replace KA := hid (KA.out.gr HX7.out)
  replace HAN := hid (HAN.out.gr HX7.out)
  replace HG := hid (HG.out.trans HX7.out)
  clear HX1 HX2 HX3 HX4 HX5 HX6 HX7
  go_wp2
  go_ret
  exact ⟨rfl, HG.out⟩
end Go.Proofs.YtkbgdiejjabdmaaDoor
