/- The walk of the law IntegerArithmetic. -/
import Derived.Test.YtkbgdiejjabdmaaDoorZp
import Derived.Test.YtkbgdiejjabdmaaDoorIntD
import Derived.Test.YtkbgdiejjabdmaaDoorIzE
import Derived.Test.YtkbgdiejjabdmaaDoorIzW
import Derived.Deep.Cut
import Derived.Deep.RegionHeld3
namespace Go.Proofs.YtkbgdiejjabdmaaDoor
open Go.RowKit

set_option maxRecDepth 100000 in
set_option maxHeartbeats 16000000 in
theorem integerarithmetic_law (W : World) (ht : Tab W) {s1 : Bool} {A1 : Option Addr} {l1 c1 n1 : Nat} (h1 : AN W (.slice A1 l1 c1) n1 1048576) {s2 : Bool} {A2 : Option Addr} {l2 c2 n2 : Nat} (h2 : AN W (.slice A2 l2 c2) n2 1048576) : Calls Tryd.prog 16 #[.agg #[.bool s1, .slice A1 l1 c1], .agg #[.bool s2, .slice A2 l2 c2]] W (Is W (.bool true)) := by
  have HT := hid ht
  obtain ⟨a, hz1⟩ : ∃ z, z = sgnd s1 n1 := ⟨_, rfl⟩
  have KA : Hid (AZ W (.agg #[.bool s1, .slice A1 l1 c1]) a 1048576) := ⟨s1, _, n1, rfl, h1, hz1⟩
  obtain ⟨b, hz2⟩ : ∃ z, z = sgnd s2 n2 := ⟨_, rfl⟩
  have KB : Hid (AZ W (.agg #[.bool s2, .slice A2 l2 c2]) b 1048576) := ⟨s2, _, n2, rfl, h2, hz2⟩
  obtain ⟨k, hk⟩ : ∃ k, k = cmpZ a b := ⟨_, rfl⟩
  have hkn : (k != k) = false := by simp
  have HC1 : Hid (∀ (V : World) (u v : Value), AZ V u (a) 1048576 → AZ V v (b) 1048576 → Calls Tryd.prog 71 #[u, v] V (Is V (.int .i64 k))) := fun V u v h1 h2 => by
    have h := zcmp_c V u v a b 1048576 1048576 h1 h2 (by decide) (by decide)
    rw [← hk] at h
    exact h
  have HC2 : Hid (∀ (V : World) (u v : Value), AZ V u (a) 1048576 → AZ V v (b) 1048576 → Calls Tryd.prog 72 #[u, v] V (Is V (.int .i64 k))) := fun V u v h1 h2 => by
    have h := xzcmp_c V u v a b 1048576 1048576 h1 h2 (by decide) (by decide)
    rw [← hk] at h
    exact h
  have HS1 : Hid (∀ (V : World) (b1 b2 : Nat) (u v : Value), VZ V b1 u (a + b) 1048577 → VZ V b2 v (a + b) 1048577 → Calls Tryd.prog 52 #[u, v] V (Is V (.bool true))) := fun V b1 b2 u v h1 h2 => by
    have h := zsame_c V b1 b2 u v _ _ 1048577 (h1.le (by decide)) (h2.le (by decide)) (by decide)
    rw [decide_eq_true rfl] at h
    exact h
  have HS2 : Hid (∀ (V : World) (b1 b2 : Nat) (u v : Value), VZ V b1 u (a - b) 1048577 → VZ V b2 v (a - b) 1048577 → Calls Tryd.prog 52 #[u, v] V (Is V (.bool true))) := fun V b1 b2 u v h1 h2 => by
    have h := zsame_c V b1 b2 u v _ _ 1048577 (h1.le (by decide)) (h2.le (by decide)) (by decide)
    rw [decide_eq_true rfl] at h
    exact h
  have HS3 : Hid (∀ (V : World) (b1 b2 : Nat) (u v : Value), VZ V b1 u (a * b) 2097152 → VZ V b2 v (a * b) 2097152 → Calls Tryd.prog 52 #[u, v] V (Is V (.bool true))) := fun V b1 b2 u v h1 h2 => by
    have h := zsame_c V b1 b2 u v _ _ 2097152 (h1.le (by decide)) (h2.le (by decide)) (by decide)
    rw [decide_eq_true rfl] at h
    exact h
  clear ht h1 h2 hz1 hz2 hk
  go_enter Tryd.func16, Tryd.ntmps16
  go_upto_region 1 with (fail)
  obtain ⟨W0, hW⟩ : ∃ V, V = (W.alloc (.cells #[.bool s1, .slice A1 l1 c1] 51)).alloc (.cells #[.bool s2, .slice A2 l2 c2] 51) := ⟨_, rfl⟩
  obtain ⟨hg, bb0, bb1⟩ := al2 W #[.bool s1, .slice A1 l1 c1] #[.bool s2, .slice A2 l2 c2] 51 51
  rw [← hW] at hg bb0 bb1 ⊢
  clear hW
  have c10 : W0.cell? ⟨W.heap.size, 0, none⟩ = some (.bool s1) := bb0.c 0 rfl
  have c11 : W0.cell? ⟨W.heap.size, 1, none⟩ = some (.slice A1 l1 c1) := bb0.c 1 rfl
  have KA := hid (KA.out.gr hg)
  have c20 : W0.cell? ⟨W.heap.size + 1, 0, none⟩ = some (.bool s2) := bb1.c 0 rfl
  have c21 : W0.cell? ⟨W.heap.size + 1, 1, none⟩ = some (.slice A2 l2 c2) := bb1.c 1 rfl
  have KB := hid (KB.out.gr hg)
  have HG := hid hg
  clear hg bb0 bb1
  go_region_held3 (fun V => V.cell? ⟨W.heap.size, 0, none⟩ = some (.bool s1) ∧ V.cell? ⟨W.heap.size, 1, none⟩ = some (.slice A1 l1 c1) ∧ V.cell? ⟨W.heap.size + 1, 0, none⟩ = some (.bool s2) ∧ V.cell? ⟨W.heap.size + 1, 1, none⟩ = some (.slice A2 l2 c2))
    (first
      | exact ⟨c10, c11, c20, c21⟩
      | with_reducible exact ⟨Gr.cell HX1.out c10, Gr.cell HX1.out c11, Gr.cell HX1.out c20, Gr.cell HX1.out c21⟩
      | with_reducible exact ⟨Gr.cell HX2.out c10, Gr.cell HX2.out c11, Gr.cell HX2.out c20, Gr.cell HX2.out c21⟩
      | with_reducible exact ⟨Gr.cell HX3.out c10, Gr.cell HX3.out c11, Gr.cell HX3.out c20, Gr.cell HX3.out c21⟩
      | with_reducible exact ⟨Gr.cell HX4.out c10, Gr.cell HX4.out c11, Gr.cell HX4.out c20, Gr.cell HX4.out c21⟩
      | with_reducible exact ⟨Gr.cell HX5.out c10, Gr.cell HX5.out c11, Gr.cell HX5.out c20, Gr.cell HX5.out c21⟩
      | with_reducible exact ⟨Gr.cell HX6.out c10, Gr.cell HX6.out c11, Gr.cell HX6.out c20, Gr.cell HX6.out c21⟩
      | with_reducible exact ⟨Gr.cell HX7.out c10, Gr.cell HX7.out c11, Gr.cell HX7.out c20, Gr.cell HX7.out c21⟩
      | with_reducible exact ⟨Gr.cell HX8.out c10, Gr.cell HX8.out c11, Gr.cell HX8.out c20, Gr.cell HX8.out c21⟩
      | with_reducible exact ⟨Gr.cell HX9.out c10, Gr.cell HX9.out c11, Gr.cell HX9.out c20, Gr.cell HX9.out c21⟩
      | with_reducible exact ⟨Gr.cell HX10.out c10, Gr.cell HX10.out c11, Gr.cell HX10.out c20, Gr.cell HX10.out c21⟩
      | with_reducible exact ⟨Gr.cell HX11.out c10, Gr.cell HX11.out c11, Gr.cell HX11.out c20, Gr.cell HX11.out c21⟩)
    (first
      | (go_at_call 52; refine (HS3.out x10 _ _ _ _ HV9_10.out HV10_10.out).mono ?_; rintro e w1 ⟨rfl, hg⟩; have HX11 := hid (HX10.out.trans hg); clear hg)
      | (go_at_call 76; refine (xzmul_c x9 _ _ a b 1048576 1048576 (KA.out.gr HX9.out) (KB.out.gr HX9.out) (by decide) (by decide)).mono ?_; rintro e x10 ⟨g10, rfl, hv, hg⟩; have HX10 := hid (HX9.out.trans hg); have HV10_10 := hid hv; have HV9_10 := hid (HV9_9.out.gr hg); clear hv hg)
      | (go_at_call 70; refine (zmul_c x8 _ _ a b 1048576 1048576 (KA.out.gr HX8.out) (KB.out.gr HX8.out) (by decide) (by decide)).mono ?_; rintro e x9 ⟨g9, rfl, hv, hg⟩; have HX9 := hid (HX8.out.trans hg); have HV9_9 := hid hv; clear hv hg)
      | (go_at_call 52; refine (HS2.out x7 _ _ _ _ HV6_7.out HV7_7.out).mono ?_; rintro e x8 ⟨rfl, hg⟩; have HX8 := hid (HX7.out.trans hg); clear hg)
      | (go_at_call 75; refine (xzsub_c x6 _ _ a b 1048576 (KA.out.gr HX6.out) (KB.out.gr HX6.out) (by decide)).mono ?_; rintro e x7 ⟨g7, rfl, hv, hg⟩; have HX7 := hid (HX6.out.trans hg); have HV7_7 := hid hv; have HV6_7 := hid (HV6_6.out.gr hg); clear hv hg)
      | (go_at_call 74; refine (zsub_c x5 _ _ a b 1048576 (KA.out.gr HX5.out) (KB.out.gr HX5.out) (by decide)).mono ?_; rintro e x6 ⟨g6, rfl, hv, hg⟩; have HX6 := hid (HX5.out.trans hg); have HV6_6 := hid hv; clear hv hg)
      | (go_at_call 52; refine (HS1.out x4 _ _ _ _ HV3_4.out HV4_4.out).mono ?_; rintro e x5 ⟨rfl, hg⟩; have HX5 := hid (HX4.out.trans hg); clear hg)
      | (go_at_call 73; refine (xzadd_c x3 _ _ a b 1048576 (KA.out.gr HX3.out) (KB.out.gr HX3.out) (by decide)).mono ?_; rintro e x4 ⟨g4, rfl, hv, hg⟩; have HX4 := hid (HX3.out.trans hg); have HV4_4 := hid hv; have HV3_4 := hid (HV3_3.out.gr hg); clear hv hg)
      | (go_at_call 69; refine (zadd_c x2 _ _ a b 1048576 (KA.out.gr HX2.out) (KB.out.gr HX2.out) (by decide)).mono ?_; rintro e x3 ⟨g3, rfl, hv, hg⟩; have HX3 := hid (HX2.out.trans hg); have HV3_3 := hid hv; clear hv hg)
      | (go_at_call 72; refine (HC2.out x1 _ _ (KA.out.gr HX1.out) (KB.out.gr HX1.out)).mono ?_; rintro e x2 ⟨rfl, hg⟩; have HX2 := hid (HX1.out.trans hg); clear hg)
      | (go_at_call 71; refine (HC1.out _ _ _ (KA.out.gr ((Gr.refl W0).drew)) (KB.out.gr ((Gr.refl W0).drew))).mono ?_; rintro e x1 ⟨rfl, hg⟩; have HX1 := hid (((Gr.refl W0).drew).trans hg); clear hg))
  have k1_c10 := Gr.cell HX11.out c10
  have k1_c11 := Gr.cell HX11.out c11
  have k1_c20 := Gr.cell HX11.out c20
  have k1_c21 := Gr.cell HX11.out c21
  clear c10 c11 c20 c21
  replace KA := hid (KA.out.gr HX11.out)
  replace KB := hid (KB.out.gr HX11.out)
  replace HG := hid (HG.out.trans HX11.out)
  clear HX1 HX2 HX3 HX4 HX5 HX6 HX7 HX8 HX9 HX10 HX11
  clear hkn HC1 HC2 HS1 HS2 HS3
  by_cases hb0 : b = 0
  · have HB0 := hid hb0
    clear hb0
    go_wp2_with fail
    refine (zdivmod_c0 w1 _ _ a b 1048576 KA.out KB.out (by decide) HB0.out).mono ?_
    rintro e w2 ⟨u, v, rfl, ⟨rfl, rfl⟩, hg⟩
    have k2_c10 := Gr.cell hg k1_c10
    have k2_c11 := Gr.cell hg k1_c11
    have k2_c20 := Gr.cell hg k1_c20
    have k2_c21 := Gr.cell hg k1_c21
    clear k1_c10 k1_c11 k1_c20 k1_c21
    replace KA := hid (KA.out.gr hg)
    replace KB := hid (KB.out.gr hg)
    replace HG := hid (HG.out.trans hg)
    clear hg
    obtain ⟨W2, hW⟩ : ∃ V, V = (w2.alloc (.cells #[.bool false, .slice none 0 0] 51)).alloc (.cells #[.bool false, .slice none 0 0] 51) := ⟨_, rfl⟩
    go_upto_region 4 with (fail)
    obtain ⟨hg, bb0, bb1⟩ := al2 w2 #[.bool false, .slice none 0 0] #[.bool false, .slice none 0 0] 51 51
    rw [← hW] at hg bb0 bb1 ⊢
    clear hW
    have k3_c10 := Gr.cell hg k2_c10
    have k3_c11 := Gr.cell hg k2_c11
    have k3_c20 := Gr.cell hg k2_c20
    have k3_c21 := Gr.cell hg k2_c21
    clear k2_c10 k2_c11 k2_c20 k2_c21
    replace KA := hid (KA.out.gr hg)
    replace KB := hid (KB.out.gr hg)
    replace HG := hid (HG.out.trans hg)
    have cq00 : W2.cell? ⟨w2.heap.size, 0, none⟩ = some (.bool false) := bb0.c 0 rfl
    have cq01 : W2.cell? ⟨w2.heap.size, 1, none⟩ = some (.slice none 0 0) := bb0.c 1 rfl
    have cq10 : W2.cell? ⟨w2.heap.size + 1, 0, none⟩ = some (.bool false) := bb1.c 0 rfl
    have cq11 : W2.cell? ⟨w2.heap.size + 1, 1, none⟩ = some (.slice none 0 0) := bb1.c 1 rfl
    clear hg bb0 bb1
    go_wp2_with fail
    refine (xzdivmod_c0 W2 _ _ a b 1048576 KA.out KB.out (by decide) HB0.out).mono ?_
    rintro e w3 ⟨u2, v2, rfl, ⟨rfl, rfl⟩, hg⟩
    have k4_c10 := Gr.cell hg k3_c10
    have k4_c11 := Gr.cell hg k3_c11
    have k4_c20 := Gr.cell hg k3_c20
    have k4_c21 := Gr.cell hg k3_c21
    have k4_cq00 := Gr.cell hg cq00
    have k4_cq01 := Gr.cell hg cq01
    have k4_cq10 := Gr.cell hg cq10
    have k4_cq11 := Gr.cell hg cq11
    clear k3_c10 k3_c11 k3_c20 k3_c21 cq00 cq01 cq10 cq11
    replace KA := hid (KA.out.gr hg)
    replace KB := hid (KB.out.gr hg)
    replace HG := hid (HG.out.trans hg)
    clear hg
    obtain ⟨W3, hW⟩ : ∃ V, V = (w3.alloc (.cells #[.bool false, .slice none 0 0] 51)).alloc (.cells #[.bool false, .slice none 0 0] 51) := ⟨_, rfl⟩
    go_upto_region 5 with (fail)
    obtain ⟨hg, bb0, bb1⟩ := al2 w3 #[.bool false, .slice none 0 0] #[.bool false, .slice none 0 0] 51 51
    rw [← hW] at hg bb0 bb1 ⊢
    clear hW
    have k5_c10 := Gr.cell hg k4_c10
    have k5_c11 := Gr.cell hg k4_c11
    have k5_c20 := Gr.cell hg k4_c20
    have k5_c21 := Gr.cell hg k4_c21
    have k5_cq00 := Gr.cell hg k4_cq00
    have k5_cq01 := Gr.cell hg k4_cq01
    have k5_cq10 := Gr.cell hg k4_cq10
    have k5_cq11 := Gr.cell hg k4_cq11
    clear k4_c10 k4_c11 k4_c20 k4_c21 k4_cq00 k4_cq01 k4_cq10 k4_cq11
    replace KA := hid (KA.out.gr hg)
    replace KB := hid (KB.out.gr hg)
    replace HG := hid (HG.out.trans hg)
    have cp00 : W3.cell? ⟨w3.heap.size, 0, none⟩ = some (.bool false) := bb0.c 0 rfl
    have cp01 : W3.cell? ⟨w3.heap.size, 1, none⟩ = some (.slice none 0 0) := bb0.c 1 rfl
    have cp10 : W3.cell? ⟨w3.heap.size + 1, 0, none⟩ = some (.bool false) := bb1.c 0 rfl
    have cp11 : W3.cell? ⟨w3.heap.size + 1, 1, none⟩ = some (.slice none 0 0) := bb1.c 1 rfl
    clear hg bb0 bb1
    go_wp2_with fail
    refine (zsame_t W3 0 0 _ _ 0 1 (VZ.zero' _ _ _) (VZ.zero' _ _ _) (by decide)).mono ?_
    rintro e w4 ⟨rfl, hg⟩
    have k6_c10 := Gr.cell hg k5_c10
    have k6_c11 := Gr.cell hg k5_c11
    have k6_c20 := Gr.cell hg k5_c20
    have k6_c21 := Gr.cell hg k5_c21
    have k6_cq00 := Gr.cell hg k5_cq00
    have k6_cq01 := Gr.cell hg k5_cq01
    have k6_cq10 := Gr.cell hg k5_cq10
    have k6_cq11 := Gr.cell hg k5_cq11
    have k6_cp00 := Gr.cell hg cp00
    have k6_cp01 := Gr.cell hg cp01
    have k6_cp10 := Gr.cell hg cp10
    have k6_cp11 := Gr.cell hg cp11
    clear k5_c10 k5_c11 k5_c20 k5_c21 k5_cq00 k5_cq01 k5_cq10 k5_cq11 cp00 cp01 cp10 cp11
    replace KA := hid (KA.out.gr hg)
    replace KB := hid (KB.out.gr hg)
    replace HG := hid (HG.out.trans hg)
    clear hg
    go_wp2_with fail
    refine (zsame_t w4 0 0 _ _ 0 1 (VZ.zero' _ _ _) (VZ.zero' _ _ _) (by decide)).mono ?_
    rintro e w5 ⟨rfl, hg⟩
    have k7_c10 := Gr.cell hg k6_c10
    have k7_c11 := Gr.cell hg k6_c11
    have k7_c20 := Gr.cell hg k6_c20
    have k7_c21 := Gr.cell hg k6_c21
    have k7_cq00 := Gr.cell hg k6_cq00
    have k7_cq01 := Gr.cell hg k6_cq01
    have k7_cq10 := Gr.cell hg k6_cq10
    have k7_cq11 := Gr.cell hg k6_cq11
    have k7_cp00 := Gr.cell hg k6_cp00
    have k7_cp01 := Gr.cell hg k6_cp01
    have k7_cp10 := Gr.cell hg k6_cp10
    have k7_cp11 := Gr.cell hg k6_cp11
    clear k6_c10 k6_c11 k6_c20 k6_c21 k6_cq00 k6_cq01 k6_cq10 k6_cq11 k6_cp00 k6_cp01 k6_cp10 k6_cp11
    replace KA := hid (KA.out.gr hg)
    replace KB := hid (KB.out.gr hg)
    replace HG := hid (HG.out.trans hg)
    clear hg
    go_wp2_with fail
    refine (awake2_c w5 (HT.out.gr HG.out)).mono ?_
    rintro e w6 ⟨rfl, hg⟩
    have k8_c10 := Gr.cell hg k7_c10
    have k8_c11 := Gr.cell hg k7_c11
    have k8_c20 := Gr.cell hg k7_c20
    have k8_c21 := Gr.cell hg k7_c21
    have k8_cq00 := Gr.cell hg k7_cq00
    have k8_cq01 := Gr.cell hg k7_cq01
    have k8_cq10 := Gr.cell hg k7_cq10
    have k8_cq11 := Gr.cell hg k7_cq11
    have k8_cp00 := Gr.cell hg k7_cp00
    have k8_cp01 := Gr.cell hg k7_cp01
    have k8_cp10 := Gr.cell hg k7_cp10
    have k8_cp11 := Gr.cell hg k7_cp11
    clear k7_c10 k7_c11 k7_c20 k7_c21 k7_cq00 k7_cq01 k7_cq10 k7_cq11 k7_cp00 k7_cp01 k7_cp10 k7_cp11
    replace KA := hid (KA.out.gr hg)
    replace KB := hid (KB.out.gr hg)
    replace HG := hid (HG.out.trans hg)
    clear hg
    go_wp2
    go_ret
    exact ⟨rfl, HG.out⟩
  · obtain ⟨Q, hQ⟩ : ∃ q, q = a.fdiv b := ⟨_, rfl⟩
    obtain ⟨r, hr⟩ : ∃ k, k = a.fmod b := ⟨_, rfl⟩
    have HDM : Hid (∀ (V : World) (u v : Value), AZ V u a 1048576 → AZ V v b 1048576 → Calls Tryd.prog 68 #[u, v] V (RetVB V true fun x y w' => VZ w' V.heap.size x Q 1048577 ∧ VZ w' V.heap.size y r 1048576)) := fun V u v h1 h2 => by
      have h := zdivmod_c V u v a b 1048576 h1 h2 (by decide) hb0
      rw [← hQ, ← hr] at h
      exact h
    have HXM : Hid (∀ (V : World) (u v : Value), AZ V u a 1048576 → AZ V v b 1048576 → Calls Tryd.prog 77 #[u, v] V (RetVB V true fun x y w' => VZ w' V.heap.size x Q 1048577 ∧ VZ w' V.heap.size y r 2097154)) := fun V u v h1 h2 => by
      have h := xzdivmod_c V u v a b 1048576 h1 h2 (by decide) (by decide) hb0
      rw [← hQ, ← hr] at h
      exact h
    have HS4 : Hid (∀ (V : World) (b1 b2 : Nat) (u v : Value), VZ V b1 u (Q) 1048577 → VZ V b2 v (Q) 1048577 → Calls Tryd.prog 52 #[u, v] V (Is V (.bool true))) := fun V b1 b2 u v h1 h2 => by
      have h := zsame_c V b1 b2 u v _ _ 1048577 (h1.le (by decide)) (h2.le (by decide)) (by decide)
      rw [decide_eq_true rfl] at h
      exact h
    have HS5 : Hid (∀ (V : World) (b1 b2 : Nat) (u v : Value), VZ V b1 u (r) 1048576 → VZ V b2 v (r) 2097154 → Calls Tryd.prog 52 #[u, v] V (Is V (.bool true))) := fun V b1 b2 u v h1 h2 => by
      have h := zsame_c V b1 b2 u v _ _ 2097154 (h1.le (by decide)) (h2.le (by decide)) (by decide)
      rw [decide_eq_true rfl] at h
      exact h
    clear hQ hr hb0
    go_wp2_with fail
    refine (HDM.out w1 _ _ KA.out KB.out).mono ?_
    rintro e w2 ⟨v1, v2, rfl, ⟨hv1, hv2⟩, hg⟩
    have k2_c10 := Gr.cell hg k1_c10
    have k2_c11 := Gr.cell hg k1_c11
    have k2_c20 := Gr.cell hg k1_c20
    have k2_c21 := Gr.cell hg k1_c21
    clear k1_c10 k1_c11 k1_c20 k1_c21
    replace KA := hid (KA.out.gr hg)
    replace KB := hid (KB.out.gr hg)
    replace HG := hid (HG.out.trans hg)
    clear hg
    obtain ⟨Aq, lq, cq, rfl, hv1⟩ := hv1.form
    obtain ⟨bsq, hs⟩ : ∃ y0, y0 = decide ((Q : Int) < 0) := ⟨_, rfl⟩
    rw [← hs] at hv1 ⊢
    clear hs
    have KQ := hid hv1
    clear hv1
    obtain ⟨Ar, lr, cr, rfl, hv2⟩ := hv2.form
    obtain ⟨bsr, hs⟩ : ∃ y0, y0 = decide ((r : Int) < 0) := ⟨_, rfl⟩
    rw [← hs] at hv2 ⊢
    clear hs
    have KR := hid hv2
    clear hv2
    obtain ⟨W2, hW⟩ : ∃ V, V = (w2.alloc (.cells #[.bool bsq, .slice Aq lq cq] 51)).alloc (.cells #[.bool bsr, .slice Ar lr cr] 51) := ⟨_, rfl⟩
    go_upto_region 4 with (fail)
    obtain ⟨hg, bb0, bb1⟩ := al2 w2 #[.bool bsq, .slice Aq lq cq] #[.bool bsr, .slice Ar lr cr] 51 51
    rw [← hW] at hg bb0 bb1 ⊢
    clear hW
    have k3_c10 := Gr.cell hg k2_c10
    have k3_c11 := Gr.cell hg k2_c11
    have k3_c20 := Gr.cell hg k2_c20
    have k3_c21 := Gr.cell hg k2_c21
    clear k2_c10 k2_c11 k2_c20 k2_c21
    replace KA := hid (KA.out.gr hg)
    replace KB := hid (KB.out.gr hg)
    replace KQ := hid (KQ.out.gr hg)
    replace KR := hid (KR.out.gr hg)
    replace HG := hid (HG.out.trans hg)
    have cq0 : W2.cell? ⟨w2.heap.size, 0, none⟩ = some (.bool bsq) := bb0.c 0 rfl
    have cq1 : W2.cell? ⟨w2.heap.size, 1, none⟩ = some (.slice Aq lq cq) := bb0.c 1 rfl
    have cr0 : W2.cell? ⟨w2.heap.size + 1, 0, none⟩ = some (.bool bsr) := bb1.c 0 rfl
    have cr1 : W2.cell? ⟨w2.heap.size + 1, 1, none⟩ = some (.slice Ar lr cr) := bb1.c 1 rfl
    clear hg bb0 bb1
    go_wp2_with fail
    refine (HXM.out W2 _ _ KA.out KB.out).mono ?_
    rintro e w3 ⟨v3, v4, rfl, ⟨hv3, hv4⟩, hg⟩
    have k4_c10 := Gr.cell hg k3_c10
    have k4_c11 := Gr.cell hg k3_c11
    have k4_c20 := Gr.cell hg k3_c20
    have k4_c21 := Gr.cell hg k3_c21
    have k4_cq0 := Gr.cell hg cq0
    have k4_cq1 := Gr.cell hg cq1
    have k4_cr0 := Gr.cell hg cr0
    have k4_cr1 := Gr.cell hg cr1
    clear k3_c10 k3_c11 k3_c20 k3_c21 cq0 cq1 cr0 cr1
    replace KA := hid (KA.out.gr hg)
    replace KB := hid (KB.out.gr hg)
    replace KQ := hid (KQ.out.gr hg)
    replace KR := hid (KR.out.gr hg)
    replace HG := hid (HG.out.trans hg)
    clear hg
    obtain ⟨Ap, lp, cp, rfl, hv3⟩ := hv3.form
    obtain ⟨bsp, hs⟩ : ∃ y0, y0 = decide ((Q : Int) < 0) := ⟨_, rfl⟩
    rw [← hs] at hv3 ⊢
    clear hs
    have KP := hid hv3
    clear hv3
    obtain ⟨As, ls, cs, rfl, hv4⟩ := hv4.form
    obtain ⟨bss, hs⟩ : ∃ y0, y0 = decide ((r : Int) < 0) := ⟨_, rfl⟩
    rw [← hs] at hv4 ⊢
    clear hs
    have KS := hid hv4
    clear hv4
    obtain ⟨W3, hW⟩ : ∃ V, V = (w3.alloc (.cells #[.bool bsp, .slice Ap lp cp] 51)).alloc (.cells #[.bool bss, .slice As ls cs] 51) := ⟨_, rfl⟩
    go_upto_region 5 with (fail)
    obtain ⟨hg, bb0, bb1⟩ := al2 w3 #[.bool bsp, .slice Ap lp cp] #[.bool bss, .slice As ls cs] 51 51
    rw [← hW] at hg bb0 bb1 ⊢
    clear hW
    have k5_c10 := Gr.cell hg k4_c10
    have k5_c11 := Gr.cell hg k4_c11
    have k5_c20 := Gr.cell hg k4_c20
    have k5_c21 := Gr.cell hg k4_c21
    have k5_cq0 := Gr.cell hg k4_cq0
    have k5_cq1 := Gr.cell hg k4_cq1
    have k5_cr0 := Gr.cell hg k4_cr0
    have k5_cr1 := Gr.cell hg k4_cr1
    clear k4_c10 k4_c11 k4_c20 k4_c21 k4_cq0 k4_cq1 k4_cr0 k4_cr1
    replace KA := hid (KA.out.gr hg)
    replace KB := hid (KB.out.gr hg)
    replace KQ := hid (KQ.out.gr hg)
    replace KR := hid (KR.out.gr hg)
    replace KP := hid (KP.out.gr hg)
    replace KS := hid (KS.out.gr hg)
    replace HG := hid (HG.out.trans hg)
    have cp0 : W3.cell? ⟨w3.heap.size, 0, none⟩ = some (.bool bsp) := bb0.c 0 rfl
    have cp1 : W3.cell? ⟨w3.heap.size, 1, none⟩ = some (.slice Ap lp cp) := bb0.c 1 rfl
    have cs0 : W3.cell? ⟨w3.heap.size + 1, 0, none⟩ = some (.bool bss) := bb1.c 0 rfl
    have cs1 : W3.cell? ⟨w3.heap.size + 1, 1, none⟩ = some (.slice As ls cs) := bb1.c 1 rfl
    clear hg bb0 bb1
    go_wp2_with fail
    refine (HS4.out W3 _ _ _ _ KQ.out KP.out).mono ?_
    rintro e w4 ⟨rfl, hg⟩
    have k6_c10 := Gr.cell hg k5_c10
    have k6_c11 := Gr.cell hg k5_c11
    have k6_c20 := Gr.cell hg k5_c20
    have k6_c21 := Gr.cell hg k5_c21
    have k6_cq0 := Gr.cell hg k5_cq0
    have k6_cq1 := Gr.cell hg k5_cq1
    have k6_cr0 := Gr.cell hg k5_cr0
    have k6_cr1 := Gr.cell hg k5_cr1
    have k6_cp0 := Gr.cell hg cp0
    have k6_cp1 := Gr.cell hg cp1
    have k6_cs0 := Gr.cell hg cs0
    have k6_cs1 := Gr.cell hg cs1
    clear k5_c10 k5_c11 k5_c20 k5_c21 k5_cq0 k5_cq1 k5_cr0 k5_cr1 cp0 cp1 cs0 cs1
    replace KA := hid (KA.out.gr hg)
    replace KB := hid (KB.out.gr hg)
    replace KQ := hid (KQ.out.gr hg)
    replace KR := hid (KR.out.gr hg)
    replace KP := hid (KP.out.gr hg)
    replace KS := hid (KS.out.gr hg)
    replace HG := hid (HG.out.trans hg)
    clear hg
    go_wp2_with fail
    refine (HS5.out w4 _ _ _ _ KR.out KS.out).mono ?_
    rintro e w5 ⟨rfl, hg⟩
    have k7_c10 := Gr.cell hg k6_c10
    have k7_c11 := Gr.cell hg k6_c11
    have k7_c20 := Gr.cell hg k6_c20
    have k7_c21 := Gr.cell hg k6_c21
    have k7_cq0 := Gr.cell hg k6_cq0
    have k7_cq1 := Gr.cell hg k6_cq1
    have k7_cr0 := Gr.cell hg k6_cr0
    have k7_cr1 := Gr.cell hg k6_cr1
    have k7_cp0 := Gr.cell hg k6_cp0
    have k7_cp1 := Gr.cell hg k6_cp1
    have k7_cs0 := Gr.cell hg k6_cs0
    have k7_cs1 := Gr.cell hg k6_cs1
    clear k6_c10 k6_c11 k6_c20 k6_c21 k6_cq0 k6_cq1 k6_cr0 k6_cr1 k6_cp0 k6_cp1 k6_cs0 k6_cs1
    replace KA := hid (KA.out.gr hg)
    replace KB := hid (KB.out.gr hg)
    replace KQ := hid (KQ.out.gr hg)
    replace KR := hid (KR.out.gr hg)
    replace KP := hid (KP.out.gr hg)
    replace KS := hid (KS.out.gr hg)
    replace HG := hid (HG.out.trans hg)
    clear hg
    go_wp2_with fail
    refine (awake2_c w5 (HT.out.gr HG.out)).mono ?_
    rintro e w6 ⟨rfl, hg⟩
    have k8_c10 := Gr.cell hg k7_c10
    have k8_c11 := Gr.cell hg k7_c11
    have k8_c20 := Gr.cell hg k7_c20
    have k8_c21 := Gr.cell hg k7_c21
    have k8_cq0 := Gr.cell hg k7_cq0
    have k8_cq1 := Gr.cell hg k7_cq1
    have k8_cr0 := Gr.cell hg k7_cr0
    have k8_cr1 := Gr.cell hg k7_cr1
    have k8_cp0 := Gr.cell hg k7_cp0
    have k8_cp1 := Gr.cell hg k7_cp1
    have k8_cs0 := Gr.cell hg k7_cs0
    have k8_cs1 := Gr.cell hg k7_cs1
    clear k7_c10 k7_c11 k7_c20 k7_c21 k7_cq0 k7_cq1 k7_cr0 k7_cr1 k7_cp0 k7_cp1 k7_cs0 k7_cs1
    replace KA := hid (KA.out.gr hg)
    replace KB := hid (KB.out.gr hg)
    replace KQ := hid (KQ.out.gr hg)
    replace KR := hid (KR.out.gr hg)
    replace KP := hid (KP.out.gr hg)
    replace KS := hid (KS.out.gr hg)
    replace HG := hid (HG.out.trans hg)
    clear hg
    go_wp2
    go_ret
    exact ⟨rfl, HG.out⟩
end Go.Proofs.YtkbgdiejjabdmaaDoor
