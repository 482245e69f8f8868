/- The walk of the law IntegerOrder. -/
import Derived.Test.YtkbgdiejjabdmaaDoorZp
import Derived.Test.YtkbgdiejjabdmaaDoorIzW
import Derived.Deep.Cut
import Derived.Deep.RegionHeld3
namespace Go.Proofs.YtkbgdiejjabdmaaDoor
open Go.RowKit

set_option maxRecDepth 100000 in
set_option maxHeartbeats 16000000 in
theorem integerorder_law (W : World) (ht : Tab W) {s1 : Bool} {A1 : Option Addr} {l1 c1 n1 : Nat} (h1 : AN W (.slice A1 l1 c1) n1 1048576) {s2 : Bool} {A2 : Option Addr} {l2 c2 n2 : Nat} (h2 : AN W (.slice A2 l2 c2) n2 1048576) {s3 : Bool} {A3 : Option Addr} {l3 c3 n3 : Nat} (h3 : AN W (.slice A3 l3 c3) n3 1048576) : Calls Tryd.prog 18 #[.agg #[.bool s1, .slice A1 l1 c1], .agg #[.bool s2, .slice A2 l2 c2], .agg #[.bool s3, .slice A3 l3 c3]] W (Is W (.bool true)) := by
  have HT := hid ht
  obtain ⟨a, hz1⟩ : ∃ z, z = sgnd s1 n1 := ⟨_, rfl⟩
  have KA : Hid (AZ W (.agg #[.bool s1, .slice A1 l1 c1]) a 1048576) := ⟨s1, _, n1, rfl, h1, hz1⟩
  obtain ⟨b, hz2⟩ : ∃ z, z = sgnd s2 n2 := ⟨_, rfl⟩
  have KB : Hid (AZ W (.agg #[.bool s2, .slice A2 l2 c2]) b 1048576) := ⟨s2, _, n2, rfl, h2, hz2⟩
  obtain ⟨c, hz3⟩ : ∃ z, z = sgnd s3 n3 := ⟨_, rfl⟩
  have KC : Hid (AZ W (.agg #[.bool s3, .slice A3 l3 c3]) c 1048576) := ⟨s3, _, n3, rfl, h3, hz3⟩
  obtain ⟨k, hk⟩ : ∃ k, k = cmpZ a b := ⟨_, rfl⟩
  obtain ⟨k2, hk2⟩ : ∃ k, k = cmpZ b a := ⟨_, rfl⟩
  obtain ⟨m, hm⟩ : ∃ k, k = cmpZ b c := ⟨_, rfl⟩
  obtain ⟨q, hq⟩ : ∃ k, k = cmpZ a c := ⟨_, rfl⟩
  obtain ⟨sc, hsc⟩ : ∃ k, k = c.sign := ⟨_, rfl⟩
  obtain ⟨e, he⟩ : ∃ e, e = decide (a = b) := ⟨_, rfl⟩
  obtain ⟨ks, hks⟩ : ∃ e, e = k * sc := ⟨_, rfl⟩
  have hkr : -1 ≤ k ∧ k ≤ 1 := by rw [hk]; exact cmpZ_rng a b
  have hsr : -1 ≤ sc ∧ sc ≤ 1 := by rw [hsc]; exact sign_rngZ c
  have hkk : k2 = -k := by rw [hk2, hk]; exact cmpZ_neg a b
  have hke : (k == 0) = e := by rw [hk, he]; exact cmpZ_zero a b
  have hkw : IntKind.i64.wrap (-k) = k2 := by rw [hkk]; exact IntWalk.i64_in _ (by omega)
  have hkm : IntKind.i64.wrap (k * sc) = ks := by rw [hks]; exact IntWalk.i64_in _ (mul_rngZ hkr hsr)
  have hkt : k ≤ 0 → m ≤ 0 → ¬ 0 < q := by rw [hk, hm, hq]; exact cmpZ_trans
  have hd1 : decide (k < -1) = false := decide_eq_false (by omega)
  have hd2 : decide (1 < k) = false := decide_eq_false (by omega)
  have HC1 : Hid (∀ (V : World) (u v : Value), AZ V u (a) 1048576 → AZ V v (b) 1048576 → Calls Tryd.prog 71 #[u, v] V (Is V (.int .i64 k))) := fun V u v h1 h2 => by
    have h := zcmp_c V u v a b 1048576 1048576 h1 h2 (by decide) (by decide)
    rw [← hk] at h
    exact h
  have HC2 : Hid (∀ (V : World) (u v : Value), AZ V u (b) 1048576 → AZ V v (a) 1048576 → Calls Tryd.prog 71 #[u, v] V (Is V (.int .i64 k2))) := fun V u v h1 h2 => by
    have h := zcmp_c V u v b a 1048576 1048576 h1 h2 (by decide) (by decide)
    rw [← hk2] at h
    exact h
  have HC3 : Hid (∀ (V : World) (u v : Value), AZ V u (b) 1048576 → AZ V v (c) 1048576 → Calls Tryd.prog 71 #[u, v] V (Is V (.int .i64 m))) := fun V u v h1 h2 => by
    have h := zcmp_c V u v b c 1048576 1048576 h1 h2 (by decide) (by decide)
    rw [← hm] at h
    exact h
  have HC4 : Hid (∀ (V : World) (u v : Value), AZ V u (a) 1048576 → AZ V v (c) 1048576 → Calls Tryd.prog 71 #[u, v] V (Is V (.int .i64 q))) := fun V u v h1 h2 => by
    have h := zcmp_c V u v a c 1048576 1048576 h1 h2 (by decide) (by decide)
    rw [← hq] at h
    exact h
  have HC5 : Hid (∀ (V : World) (u v : Value), AZ V u (a + c) 1048577 → AZ V v (b + c) 1048577 → Calls Tryd.prog 71 #[u, v] V (Is V (.int .i64 k))) := fun V u v h1 h2 => by
    have h := zcmp_c V u v _ _ 1048577 1048577 h1 h2 (by decide) (by decide)
    rw [cmpZ_add, ← hk] at h
    exact h
  have HC6 : Hid (∀ (V : World) (u v : Value), AZ V u (a * c) 2097152 → AZ V v (b * c) 2097152 → Calls Tryd.prog 71 #[u, v] V (Is V (.int .i64 ks))) := fun V u v h1 h2 => by
    have h := zcmp_c V u v _ _ 2097152 2097152 h1 h2 (by decide) (by decide)
    rw [cmpZ_mul, ← hk, ← hsc, ← hks] at h
    exact h
  have HSD : Hid (∀ (V : World) (u : Value), AZ V u (a - b) 1048577 → Calls Tryd.prog 60 #[u] V (Is V (.int .i64 k))) := fun V u h1 => by
    have h := sign_c V u _ 1048577 h1 (by decide)
    rw [cmpZ_sub, ← hk] at h
    exact h
  have HSC : Hid (∀ (V : World) (u : Value), AZ V u (c) 1048576 → Calls Tryd.prog 60 #[u] V (Is V (.int .i64 sc))) := fun V u h1 => by
    have h := sign_c V u _ 1048576 h1 (by decide)
    rw [← hsc] at h
    exact h
  have HSM : Hid (∀ (V : World) (b1 b2 : Nat) (u v : Value), VZ V b1 u a 1048576 → VZ V b2 v b 1048576 → Calls Tryd.prog 52 #[u, v] V (Is V (.bool e))) := fun V b1 b2 u v h1 h2 => by
    have h := zsame_c V b1 b2 u v a b 1048576 h1 h2 (by decide)
    rw [← he] at h
    exact h
  have HKT := hid hkt
  have HD1 := hid hd1
  have HD2 := hid hd2
  have HKE := hid hke
  have HKW := hid hkw
  have HKM := hid hkm
  have hkn : (k2 != k2) = false := by simp
  have hen : (e != e) = false := by simp
  have hknn : (k != k) = false := by simp
  have hss : (ks == ks) = true := by simp
  clear ht h1 h2 h3 hz1 hz2 hz3 hk hk2 hm hq hsc he hks hkr hsr hkk hkt hd1 hd2 hke hkw hkm
  go_enter Tryd.func18, Tryd.ntmps18
  go_upto_region 1 with (fail)
  obtain ⟨W0, hW⟩ : ∃ V, V = ((W.alloc (.cells #[.bool s1, .slice A1 l1 c1] 51)).alloc (.cells #[.bool s2, .slice A2 l2 c2] 51)).alloc (.cells #[.bool s3, .slice A3 l3 c3] 51) := ⟨_, rfl⟩
  obtain ⟨hg, bb0, bb1, bb2⟩ := al3 W #[.bool s1, .slice A1 l1 c1] #[.bool s2, .slice A2 l2 c2] #[.bool s3, .slice A3 l3 c3] 51 51 51
  rw [← hW] at hg bb0 bb1 bb2 ⊢
  clear hW
  have c10 : W0.cell? ⟨W.heap.size, 0, none⟩ = some (.bool s1) := bb0.c 0 rfl
  have c11 : W0.cell? ⟨W.heap.size, 1, none⟩ = some (.slice A1 l1 c1) := bb0.c 1 rfl
  have KA := hid (KA.out.gr hg)
  have c20 : W0.cell? ⟨W.heap.size + 1, 0, none⟩ = some (.bool s2) := bb1.c 0 rfl
  have c21 : W0.cell? ⟨W.heap.size + 1, 1, none⟩ = some (.slice A2 l2 c2) := bb1.c 1 rfl
  have KB := hid (KB.out.gr hg)
  have c30 : W0.cell? ⟨W.heap.size + 2, 0, none⟩ = some (.bool s3) := bb2.c 0 rfl
  have c31 : W0.cell? ⟨W.heap.size + 2, 1, none⟩ = some (.slice A3 l3 c3) := bb2.c 1 rfl
  have KC := hid (KC.out.gr hg)
  have HG := hid hg
  clear hg bb0 bb1 bb2
  go_wp2_with fail
  refine (HC1.out W0 _ _ KA.out KB.out).mono ?_
  rintro e w1 ⟨rfl, hg⟩
  have k1_c10 := Gr.cell hg c10
  have k1_c11 := Gr.cell hg c11
  have k1_c20 := Gr.cell hg c20
  have k1_c21 := Gr.cell hg c21
  have k1_c30 := Gr.cell hg c30
  have k1_c31 := Gr.cell hg c31
  clear c10 c11 c20 c21 c30 c31
  replace KA := hid (KA.out.gr hg)
  replace KB := hid (KB.out.gr hg)
  replace KC := hid (KC.out.gr hg)
  replace HG := hid (HG.out.trans hg)
  clear hg
  go_wp2
  have hd1 := HD1.out
  have hd2 := HD2.out
  have hke := HKE.out
  have hkw := HKW.out
  go_region_held3 (fun V => V.cell? ⟨W.heap.size, 0, none⟩ = some (.bool s1) ∧ V.cell? ⟨W.heap.size, 1, none⟩ = some (.slice A1 l1 c1) ∧ V.cell? ⟨W.heap.size + 1, 0, none⟩ = some (.bool s2) ∧ V.cell? ⟨W.heap.size + 1, 1, none⟩ = some (.slice A2 l2 c2) ∧ V.cell? ⟨W.heap.size + 2, 0, none⟩ = some (.bool s3) ∧ V.cell? ⟨W.heap.size + 2, 1, none⟩ = some (.slice A3 l3 c3))
    (first
      | exact ⟨k1_c10, k1_c11, k1_c20, k1_c21, k1_c30, k1_c31⟩
      | with_reducible exact ⟨Gr.cell HX1.out k1_c10, Gr.cell HX1.out k1_c11, Gr.cell HX1.out k1_c20, Gr.cell HX1.out k1_c21, Gr.cell HX1.out k1_c30, Gr.cell HX1.out k1_c31⟩
      | with_reducible exact ⟨Gr.cell HX2.out k1_c10, Gr.cell HX2.out k1_c11, Gr.cell HX2.out k1_c20, Gr.cell HX2.out k1_c21, Gr.cell HX2.out k1_c30, Gr.cell HX2.out k1_c31⟩
      | with_reducible exact ⟨Gr.cell HX3.out k1_c10, Gr.cell HX3.out k1_c11, Gr.cell HX3.out k1_c20, Gr.cell HX3.out k1_c21, Gr.cell HX3.out k1_c30, Gr.cell HX3.out k1_c31⟩
      | with_reducible exact ⟨Gr.cell HX4.out k1_c10, Gr.cell HX4.out k1_c11, Gr.cell HX4.out k1_c20, Gr.cell HX4.out k1_c21, Gr.cell HX4.out k1_c30, Gr.cell HX4.out k1_c31⟩)
    (first
      | (go_at_call 52; refine (HSM.out x3 _ _ _ _ HV2_3.out HV3_3.out).mono ?_; rintro e w2 ⟨rfl, hg⟩; have HX4 := hid (HX3.out.trans hg); clear hg)
      | (go_at_call 58; refine (znorm_c x2 _ b 1048576 (KB.out.gr HX2.out) (by decide)).mono ?_; rintro e x3 ⟨g3, rfl, hv, hg⟩; have HX3 := hid (HX2.out.trans hg); have HV3_3 := hid hv; have HV2_3 := hid (HV2_2.out.gr hg); clear hv hg)
      | (go_at_call 58; refine (znorm_c x1 _ a 1048576 (KA.out.gr HX1.out) (by decide)).mono ?_; rintro e x2 ⟨g2, rfl, hv, hg⟩; have HX2 := hid (HX1.out.trans hg); have HV2_2 := hid hv; clear hv hg)
      | (go_at_call 71; refine (HC2.out _ _ _ (KB.out.gr ((Gr.refl w1).drew)) (KA.out.gr ((Gr.refl w1).drew))).mono ?_; rintro e x1 ⟨rfl, hg⟩; have HX1 := hid (((Gr.refl w1).drew).trans hg); clear hg))
  have k2_c10 := Gr.cell HX4.out k1_c10
  have k2_c11 := Gr.cell HX4.out k1_c11
  have k2_c20 := Gr.cell HX4.out k1_c20
  have k2_c21 := Gr.cell HX4.out k1_c21
  have k2_c30 := Gr.cell HX4.out k1_c30
  have k2_c31 := Gr.cell HX4.out k1_c31
  clear k1_c10 k1_c11 k1_c20 k1_c21 k1_c30 k1_c31
  replace KA := hid (KA.out.gr HX4.out)
  replace KB := hid (KB.out.gr HX4.out)
  replace KC := hid (KC.out.gr HX4.out)
  replace HG := hid (HG.out.trans HX4.out)
  clear HX1 HX2 HX3 HX4
  clear hd1 hd2 hke hkw
  by_cases hk0 : k ≤ 0
  · go_wp2_with fail
    refine (HC3.out w2 _ _ KB.out KC.out).mono ?_
    rintro e w3 ⟨rfl, hg⟩
    have k3_c10 := Gr.cell hg k2_c10
    have k3_c11 := Gr.cell hg k2_c11
    have k3_c20 := Gr.cell hg k2_c20
    have k3_c21 := Gr.cell hg k2_c21
    have k3_c30 := Gr.cell hg k2_c30
    have k3_c31 := Gr.cell hg k2_c31
    clear k2_c10 k2_c11 k2_c20 k2_c21 k2_c30 k2_c31
    replace KA := hid (KA.out.gr hg)
    replace KB := hid (KB.out.gr hg)
    replace KC := hid (KC.out.gr hg)
    replace HG := hid (HG.out.trans hg)
    clear hg
    by_cases hm0 : m ≤ 0
    · have hq0 := HKT.out hk0 hm0
      go_wp2_with fail
      refine (HC4.out w3 _ _ KA.out KC.out).mono ?_
      rintro e w4 ⟨rfl, hg⟩
      have k4_c10 := Gr.cell hg k3_c10
      have k4_c11 := Gr.cell hg k3_c11
      have k4_c20 := Gr.cell hg k3_c20
      have k4_c21 := Gr.cell hg k3_c21
      have k4_c30 := Gr.cell hg k3_c30
      have k4_c31 := Gr.cell hg k3_c31
      clear k3_c10 k3_c11 k3_c20 k3_c21 k3_c30 k3_c31
      replace KA := hid (KA.out.gr hg)
      replace KB := hid (KB.out.gr hg)
      replace KC := hid (KC.out.gr hg)
      replace HG := hid (HG.out.trans hg)
      clear hg
      go_wp2
      go_region_held3 (fun V => V.cell? ⟨W.heap.size, 0, none⟩ = some (.bool s1) ∧ V.cell? ⟨W.heap.size, 1, none⟩ = some (.slice A1 l1 c1) ∧ V.cell? ⟨W.heap.size + 1, 0, none⟩ = some (.bool s2) ∧ V.cell? ⟨W.heap.size + 1, 1, none⟩ = some (.slice A2 l2 c2) ∧ V.cell? ⟨W.heap.size + 2, 0, none⟩ = some (.bool s3) ∧ V.cell? ⟨W.heap.size + 2, 1, none⟩ = some (.slice A3 l3 c3))
        (first
          | exact ⟨k4_c10, k4_c11, k4_c20, k4_c21, k4_c30, k4_c31⟩
          | with_reducible exact ⟨Gr.cell HX1.out k4_c10, Gr.cell HX1.out k4_c11, Gr.cell HX1.out k4_c20, Gr.cell HX1.out k4_c21, Gr.cell HX1.out k4_c30, Gr.cell HX1.out k4_c31⟩
          | with_reducible exact ⟨Gr.cell HX2.out k4_c10, Gr.cell HX2.out k4_c11, Gr.cell HX2.out k4_c20, Gr.cell HX2.out k4_c21, Gr.cell HX2.out k4_c30, Gr.cell HX2.out k4_c31⟩
          | with_reducible exact ⟨Gr.cell HX3.out k4_c10, Gr.cell HX3.out k4_c11, Gr.cell HX3.out k4_c20, Gr.cell HX3.out k4_c21, Gr.cell HX3.out k4_c30, Gr.cell HX3.out k4_c31⟩
          | with_reducible exact ⟨Gr.cell HX4.out k4_c10, Gr.cell HX4.out k4_c11, Gr.cell HX4.out k4_c20, Gr.cell HX4.out k4_c21, Gr.cell HX4.out k4_c30, Gr.cell HX4.out k4_c31⟩
          | with_reducible exact ⟨Gr.cell HX5.out k4_c10, Gr.cell HX5.out k4_c11, Gr.cell HX5.out k4_c20, Gr.cell HX5.out k4_c21, Gr.cell HX5.out k4_c30, Gr.cell HX5.out k4_c31⟩)
        (first
          | (go_at_call 60; refine (HSD.out x4 _ HV4_4.out.az).mono ?_; rintro e w6 ⟨rfl, hg⟩; have HX5 := hid (HX4.out.trans hg); clear hg)
          | (go_at_call 74; refine (zsub_c x3 _ _ a b 1048576 (KA.out.gr HX3.out) (KB.out.gr HX3.out) (by decide)).mono ?_; rintro e x4 ⟨g4, rfl, hv, hg⟩; have HX4 := hid (HX3.out.trans hg); have HV4_4 := hid hv; clear hv hg)
          | (go_at_call 71; refine (HC5.out x2 _ _ HV1_2.out.az HV2_2.out.az).mono ?_; rintro e x3 ⟨rfl, hg⟩; have HX3 := hid (HX2.out.trans hg); clear hg)
          | (go_at_call 69; refine (zadd_c x1 _ _ b c 1048576 (KB.out.gr HX1.out) (KC.out.gr HX1.out) (by decide)).mono ?_; rintro e x2 ⟨g2, rfl, hv, hg⟩; have HX2 := hid (HX1.out.trans hg); have HV2_2 := hid hv; have HV1_2 := hid (HV1_1.out.gr hg); clear hv hg)
          | (go_at_call 69; refine (zadd_c _ _ _ a c 1048576 (KA.out.gr ((Gr.refl w4).drew)) (KC.out.gr ((Gr.refl w4).drew)) (by decide)).mono ?_; rintro e x1 ⟨g1, rfl, hv, hg⟩; have HX1 := hid (((Gr.refl w4).drew).trans hg); have HV1_1 := hid hv; clear hv hg))
      have k5_c10 := Gr.cell HX5.out k4_c10
      have k5_c11 := Gr.cell HX5.out k4_c11
      have k5_c20 := Gr.cell HX5.out k4_c20
      have k5_c21 := Gr.cell HX5.out k4_c21
      have k5_c30 := Gr.cell HX5.out k4_c30
      have k5_c31 := Gr.cell HX5.out k4_c31
      clear k4_c10 k4_c11 k4_c20 k4_c21 k4_c30 k4_c31
      replace KA := hid (KA.out.gr HX5.out)
      replace KB := hid (KB.out.gr HX5.out)
      replace KC := hid (KC.out.gr HX5.out)
      replace HG := hid (HG.out.trans HX5.out)
      clear HX1 HX2 HX3 HX4 HX5
      go_wp2
      have hkm := HKM.out
      go_region_held3 (fun V => V.cell? ⟨W.heap.size, 0, none⟩ = some (.bool s1) ∧ V.cell? ⟨W.heap.size, 1, none⟩ = some (.slice A1 l1 c1) ∧ V.cell? ⟨W.heap.size + 1, 0, none⟩ = some (.bool s2) ∧ V.cell? ⟨W.heap.size + 1, 1, none⟩ = some (.slice A2 l2 c2) ∧ V.cell? ⟨W.heap.size + 2, 0, none⟩ = some (.bool s3) ∧ V.cell? ⟨W.heap.size + 2, 1, none⟩ = some (.slice A3 l3 c3))
        (first
          | exact ⟨k5_c10, k5_c11, k5_c20, k5_c21, k5_c30, k5_c31⟩
          | with_reducible exact ⟨Gr.cell HX1.out k5_c10, Gr.cell HX1.out k5_c11, Gr.cell HX1.out k5_c20, Gr.cell HX1.out k5_c21, Gr.cell HX1.out k5_c30, Gr.cell HX1.out k5_c31⟩
          | with_reducible exact ⟨Gr.cell HX2.out k5_c10, Gr.cell HX2.out k5_c11, Gr.cell HX2.out k5_c20, Gr.cell HX2.out k5_c21, Gr.cell HX2.out k5_c30, Gr.cell HX2.out k5_c31⟩
          | with_reducible exact ⟨Gr.cell HX3.out k5_c10, Gr.cell HX3.out k5_c11, Gr.cell HX3.out k5_c20, Gr.cell HX3.out k5_c21, Gr.cell HX3.out k5_c30, Gr.cell HX3.out k5_c31⟩
          | with_reducible exact ⟨Gr.cell HX4.out k5_c10, Gr.cell HX4.out k5_c11, Gr.cell HX4.out k5_c20, Gr.cell HX4.out k5_c21, Gr.cell HX4.out k5_c30, Gr.cell HX4.out k5_c31⟩
          | with_reducible exact ⟨Gr.cell HX5.out k5_c10, Gr.cell HX5.out k5_c11, Gr.cell HX5.out k5_c20, Gr.cell HX5.out k5_c21, Gr.cell HX5.out k5_c30, Gr.cell HX5.out k5_c31⟩)
        (first
          | (go_at_call 55; refine (awake2_c x4 (HT.out.gr (HG.out.trans HX4.out))).mono ?_; rintro e w8 ⟨rfl, hg⟩; have HX5 := hid (HX4.out.trans hg); clear hg)
          | (go_at_call 60; refine (HSC.out x3 _ (KC.out.gr HX3.out)).mono ?_; rintro e x4 ⟨rfl, hg⟩; have HX4 := hid (HX3.out.trans hg); clear hg)
          | (go_at_call 71; refine (HC6.out x2 _ _ HV1_2.out.az HV2_2.out.az).mono ?_; rintro e x3 ⟨rfl, hg⟩; have HX3 := hid (HX2.out.trans hg); clear hg)
          | (go_at_call 70; refine (zmul_c x1 _ _ b c 1048576 1048576 (KB.out.gr HX1.out) (KC.out.gr HX1.out) (by decide) (by decide)).mono ?_; rintro e x2 ⟨g2, rfl, hv, hg⟩; have HX2 := hid (HX1.out.trans hg); have HV2_2 := hid hv; have HV1_2 := hid (HV1_1.out.gr hg); clear hv hg)
          | (go_at_call 70; refine (zmul_c _ _ _ a c 1048576 1048576 (KA.out.gr ((Gr.refl w6).drew)) (KC.out.gr ((Gr.refl w6).drew)) (by decide) (by decide)).mono ?_; rintro e x1 ⟨g1, rfl, hv, hg⟩; have HX1 := hid (((Gr.refl w6).drew).trans hg); have HV1_1 := hid hv; clear hv hg))
      have k6_c10 := Gr.cell HX5.out k5_c10
      have k6_c11 := Gr.cell HX5.out k5_c11
      have k6_c20 := Gr.cell HX5.out k5_c20
      have k6_c21 := Gr.cell HX5.out k5_c21
      have k6_c30 := Gr.cell HX5.out k5_c30
      have k6_c31 := Gr.cell HX5.out k5_c31
      clear k5_c10 k5_c11 k5_c20 k5_c21 k5_c30 k5_c31
      replace KA := hid (KA.out.gr HX5.out)
      replace KB := hid (KB.out.gr HX5.out)
      replace KC := hid (KC.out.gr HX5.out)
      replace HG := hid (HG.out.trans HX5.out)
      clear HX1 HX2 HX3 HX4 HX5
      go_wp2
      go_ret
      exact ⟨rfl, HG.out⟩
    · go_wp2
      go_region_held3 (fun V => V.cell? ⟨W.heap.size, 0, none⟩ = some (.bool s1) ∧ V.cell? ⟨W.heap.size, 1, none⟩ = some (.slice A1 l1 c1) ∧ V.cell? ⟨W.heap.size + 1, 0, none⟩ = some (.bool s2) ∧ V.cell? ⟨W.heap.size + 1, 1, none⟩ = some (.slice A2 l2 c2) ∧ V.cell? ⟨W.heap.size + 2, 0, none⟩ = some (.bool s3) ∧ V.cell? ⟨W.heap.size + 2, 1, none⟩ = some (.slice A3 l3 c3))
        (first
          | exact ⟨k3_c10, k3_c11, k3_c20, k3_c21, k3_c30, k3_c31⟩
          | with_reducible exact ⟨Gr.cell HX1.out k3_c10, Gr.cell HX1.out k3_c11, Gr.cell HX1.out k3_c20, Gr.cell HX1.out k3_c21, Gr.cell HX1.out k3_c30, Gr.cell HX1.out k3_c31⟩
          | with_reducible exact ⟨Gr.cell HX2.out k3_c10, Gr.cell HX2.out k3_c11, Gr.cell HX2.out k3_c20, Gr.cell HX2.out k3_c21, Gr.cell HX2.out k3_c30, Gr.cell HX2.out k3_c31⟩
          | with_reducible exact ⟨Gr.cell HX3.out k3_c10, Gr.cell HX3.out k3_c11, Gr.cell HX3.out k3_c20, Gr.cell HX3.out k3_c21, Gr.cell HX3.out k3_c30, Gr.cell HX3.out k3_c31⟩
          | with_reducible exact ⟨Gr.cell HX4.out k3_c10, Gr.cell HX4.out k3_c11, Gr.cell HX4.out k3_c20, Gr.cell HX4.out k3_c21, Gr.cell HX4.out k3_c30, Gr.cell HX4.out k3_c31⟩
          | with_reducible exact ⟨Gr.cell HX5.out k3_c10, Gr.cell HX5.out k3_c11, Gr.cell HX5.out k3_c20, Gr.cell HX5.out k3_c21, Gr.cell HX5.out k3_c30, Gr.cell HX5.out k3_c31⟩)
        (first
          | (go_at_call 60; refine (HSD.out x4 _ HV4_4.out.az).mono ?_; rintro e w6 ⟨rfl, hg⟩; have HX5 := hid (HX4.out.trans hg); clear hg)
          | (go_at_call 74; refine (zsub_c x3 _ _ a b 1048576 (KA.out.gr HX3.out) (KB.out.gr HX3.out) (by decide)).mono ?_; rintro e x4 ⟨g4, rfl, hv, hg⟩; have HX4 := hid (HX3.out.trans hg); have HV4_4 := hid hv; clear hv hg)
          | (go_at_call 71; refine (HC5.out x2 _ _ HV1_2.out.az HV2_2.out.az).mono ?_; rintro e x3 ⟨rfl, hg⟩; have HX3 := hid (HX2.out.trans hg); clear hg)
          | (go_at_call 69; refine (zadd_c x1 _ _ b c 1048576 (KB.out.gr HX1.out) (KC.out.gr HX1.out) (by decide)).mono ?_; rintro e x2 ⟨g2, rfl, hv, hg⟩; have HX2 := hid (HX1.out.trans hg); have HV2_2 := hid hv; have HV1_2 := hid (HV1_1.out.gr hg); clear hv hg)
          | (go_at_call 69; refine (zadd_c _ _ _ a c 1048576 (KA.out.gr ((Gr.refl w3).drew)) (KC.out.gr ((Gr.refl w3).drew)) (by decide)).mono ?_; rintro e x1 ⟨g1, rfl, hv, hg⟩; have HX1 := hid (((Gr.refl w3).drew).trans hg); have HV1_1 := hid hv; clear hv hg))
      have k4_c10 := Gr.cell HX5.out k3_c10
      have k4_c11 := Gr.cell HX5.out k3_c11
      have k4_c20 := Gr.cell HX5.out k3_c20
      have k4_c21 := Gr.cell HX5.out k3_c21
      have k4_c30 := Gr.cell HX5.out k3_c30
      have k4_c31 := Gr.cell HX5.out k3_c31
      clear k3_c10 k3_c11 k3_c20 k3_c21 k3_c30 k3_c31
      replace KA := hid (KA.out.gr HX5.out)
      replace KB := hid (KB.out.gr HX5.out)
      replace KC := hid (KC.out.gr HX5.out)
      replace HG := hid (HG.out.trans HX5.out)
      clear HX1 HX2 HX3 HX4 HX5
      go_wp2
      have hkm := HKM.out
      go_region_held3 (fun V => V.cell? ⟨W.heap.size, 0, none⟩ = some (.bool s1) ∧ V.cell? ⟨W.heap.size, 1, none⟩ = some (.slice A1 l1 c1) ∧ V.cell? ⟨W.heap.size + 1, 0, none⟩ = some (.bool s2) ∧ V.cell? ⟨W.heap.size + 1, 1, none⟩ = some (.slice A2 l2 c2) ∧ V.cell? ⟨W.heap.size + 2, 0, none⟩ = some (.bool s3) ∧ V.cell? ⟨W.heap.size + 2, 1, none⟩ = some (.slice A3 l3 c3))
        (first
          | exact ⟨k4_c10, k4_c11, k4_c20, k4_c21, k4_c30, k4_c31⟩
          | with_reducible exact ⟨Gr.cell HX1.out k4_c10, Gr.cell HX1.out k4_c11, Gr.cell HX1.out k4_c20, Gr.cell HX1.out k4_c21, Gr.cell HX1.out k4_c30, Gr.cell HX1.out k4_c31⟩
          | with_reducible exact ⟨Gr.cell HX2.out k4_c10, Gr.cell HX2.out k4_c11, Gr.cell HX2.out k4_c20, Gr.cell HX2.out k4_c21, Gr.cell HX2.out k4_c30, Gr.cell HX2.out k4_c31⟩
          | with_reducible exact ⟨Gr.cell HX3.out k4_c10, Gr.cell HX3.out k4_c11, Gr.cell HX3.out k4_c20, Gr.cell HX3.out k4_c21, Gr.cell HX3.out k4_c30, Gr.cell HX3.out k4_c31⟩
          | with_reducible exact ⟨Gr.cell HX4.out k4_c10, Gr.cell HX4.out k4_c11, Gr.cell HX4.out k4_c20, Gr.cell HX4.out k4_c21, Gr.cell HX4.out k4_c30, Gr.cell HX4.out k4_c31⟩
          | with_reducible exact ⟨Gr.cell HX5.out k4_c10, Gr.cell HX5.out k4_c11, Gr.cell HX5.out k4_c20, Gr.cell HX5.out k4_c21, Gr.cell HX5.out k4_c30, Gr.cell HX5.out k4_c31⟩)
        (first
          | (go_at_call 55; refine (awake2_c x4 (HT.out.gr (HG.out.trans HX4.out))).mono ?_; rintro e w8 ⟨rfl, hg⟩; have HX5 := hid (HX4.out.trans hg); clear hg)
          | (go_at_call 60; refine (HSC.out x3 _ (KC.out.gr HX3.out)).mono ?_; rintro e x4 ⟨rfl, hg⟩; have HX4 := hid (HX3.out.trans hg); clear hg)
          | (go_at_call 71; refine (HC6.out x2 _ _ HV1_2.out.az HV2_2.out.az).mono ?_; rintro e x3 ⟨rfl, hg⟩; have HX3 := hid (HX2.out.trans hg); clear hg)
          | (go_at_call 70; refine (zmul_c x1 _ _ b c 1048576 1048576 (KB.out.gr HX1.out) (KC.out.gr HX1.out) (by decide) (by decide)).mono ?_; rintro e x2 ⟨g2, rfl, hv, hg⟩; have HX2 := hid (HX1.out.trans hg); have HV2_2 := hid hv; have HV1_2 := hid (HV1_1.out.gr hg); clear hv hg)
          | (go_at_call 70; refine (zmul_c _ _ _ a c 1048576 1048576 (KA.out.gr ((Gr.refl w6).drew)) (KC.out.gr ((Gr.refl w6).drew)) (by decide) (by decide)).mono ?_; rintro e x1 ⟨g1, rfl, hv, hg⟩; have HX1 := hid (((Gr.refl w6).drew).trans hg); have HV1_1 := hid hv; clear hv hg))
      have k5_c10 := Gr.cell HX5.out k4_c10
      have k5_c11 := Gr.cell HX5.out k4_c11
      have k5_c20 := Gr.cell HX5.out k4_c20
      have k5_c21 := Gr.cell HX5.out k4_c21
      have k5_c30 := Gr.cell HX5.out k4_c30
      have k5_c31 := Gr.cell HX5.out k4_c31
      clear k4_c10 k4_c11 k4_c20 k4_c21 k4_c30 k4_c31
      replace KA := hid (KA.out.gr HX5.out)
      replace KB := hid (KB.out.gr HX5.out)
      replace KC := hid (KC.out.gr HX5.out)
      replace HG := hid (HG.out.trans HX5.out)
      clear HX1 HX2 HX3 HX4 HX5
      go_wp2
      go_ret
      exact ⟨rfl, HG.out⟩
  · go_wp2
    go_region_held3 (fun V => V.cell? ⟨W.heap.size, 0, none⟩ = some (.bool s1) ∧ V.cell? ⟨W.heap.size, 1, none⟩ = some (.slice A1 l1 c1) ∧ V.cell? ⟨W.heap.size + 1, 0, none⟩ = some (.bool s2) ∧ V.cell? ⟨W.heap.size + 1, 1, none⟩ = some (.slice A2 l2 c2) ∧ V.cell? ⟨W.heap.size + 2, 0, none⟩ = some (.bool s3) ∧ V.cell? ⟨W.heap.size + 2, 1, none⟩ = some (.slice A3 l3 c3))
      (first
        | exact ⟨k2_c10, k2_c11, k2_c20, k2_c21, k2_c30, k2_c31⟩
        | with_reducible exact ⟨Gr.cell HX1.out k2_c10, Gr.cell HX1.out k2_c11, Gr.cell HX1.out k2_c20, Gr.cell HX1.out k2_c21, Gr.cell HX1.out k2_c30, Gr.cell HX1.out k2_c31⟩
        | with_reducible exact ⟨Gr.cell HX2.out k2_c10, Gr.cell HX2.out k2_c11, Gr.cell HX2.out k2_c20, Gr.cell HX2.out k2_c21, Gr.cell HX2.out k2_c30, Gr.cell HX2.out k2_c31⟩
        | with_reducible exact ⟨Gr.cell HX3.out k2_c10, Gr.cell HX3.out k2_c11, Gr.cell HX3.out k2_c20, Gr.cell HX3.out k2_c21, Gr.cell HX3.out k2_c30, Gr.cell HX3.out k2_c31⟩
        | with_reducible exact ⟨Gr.cell HX4.out k2_c10, Gr.cell HX4.out k2_c11, Gr.cell HX4.out k2_c20, Gr.cell HX4.out k2_c21, Gr.cell HX4.out k2_c30, Gr.cell HX4.out k2_c31⟩
        | with_reducible exact ⟨Gr.cell HX5.out k2_c10, Gr.cell HX5.out k2_c11, Gr.cell HX5.out k2_c20, Gr.cell HX5.out k2_c21, Gr.cell HX5.out k2_c30, Gr.cell HX5.out k2_c31⟩)
      (first
        | (go_at_call 60; refine (HSD.out x4 _ HV4_4.out.az).mono ?_; rintro e w6 ⟨rfl, hg⟩; have HX5 := hid (HX4.out.trans hg); clear hg)
        | (go_at_call 74; refine (zsub_c x3 _ _ a b 1048576 (KA.out.gr HX3.out) (KB.out.gr HX3.out) (by decide)).mono ?_; rintro e x4 ⟨g4, rfl, hv, hg⟩; have HX4 := hid (HX3.out.trans hg); have HV4_4 := hid hv; clear hv hg)
        | (go_at_call 71; refine (HC5.out x2 _ _ HV1_2.out.az HV2_2.out.az).mono ?_; rintro e x3 ⟨rfl, hg⟩; have HX3 := hid (HX2.out.trans hg); clear hg)
        | (go_at_call 69; refine (zadd_c x1 _ _ b c 1048576 (KB.out.gr HX1.out) (KC.out.gr HX1.out) (by decide)).mono ?_; rintro e x2 ⟨g2, rfl, hv, hg⟩; have HX2 := hid (HX1.out.trans hg); have HV2_2 := hid hv; have HV1_2 := hid (HV1_1.out.gr hg); clear hv hg)
        | (go_at_call 69; refine (zadd_c _ _ _ a c 1048576 (KA.out.gr ((Gr.refl w2).drew)) (KC.out.gr ((Gr.refl w2).drew)) (by decide)).mono ?_; rintro e x1 ⟨g1, rfl, hv, hg⟩; have HX1 := hid (((Gr.refl w2).drew).trans hg); have HV1_1 := hid hv; clear hv hg))
    have k3_c10 := Gr.cell HX5.out k2_c10
    have k3_c11 := Gr.cell HX5.out k2_c11
    have k3_c20 := Gr.cell HX5.out k2_c20
    have k3_c21 := Gr.cell HX5.out k2_c21
    have k3_c30 := Gr.cell HX5.out k2_c30
    have k3_c31 := Gr.cell HX5.out k2_c31
    clear k2_c10 k2_c11 k2_c20 k2_c21 k2_c30 k2_c31
    replace KA := hid (KA.out.gr HX5.out)
    replace KB := hid (KB.out.gr HX5.out)
    replace KC := hid (KC.out.gr HX5.out)
    replace HG := hid (HG.out.trans HX5.out)
    clear HX1 HX2 HX3 HX4 HX5
    go_wp2
    have hkm := HKM.out
    go_region_held3 (fun V => V.cell? ⟨W.heap.size, 0, none⟩ = some (.bool s1) ∧ V.cell? ⟨W.heap.size, 1, none⟩ = some (.slice A1 l1 c1) ∧ V.cell? ⟨W.heap.size + 1, 0, none⟩ = some (.bool s2) ∧ V.cell? ⟨W.heap.size + 1, 1, none⟩ = some (.slice A2 l2 c2) ∧ V.cell? ⟨W.heap.size + 2, 0, none⟩ = some (.bool s3) ∧ V.cell? ⟨W.heap.size + 2, 1, none⟩ = some (.slice A3 l3 c3))
      (first
        | exact ⟨k3_c10, k3_c11, k3_c20, k3_c21, k3_c30, k3_c31⟩
        | with_reducible exact ⟨Gr.cell HX1.out k3_c10, Gr.cell HX1.out k3_c11, Gr.cell HX1.out k3_c20, Gr.cell HX1.out k3_c21, Gr.cell HX1.out k3_c30, Gr.cell HX1.out k3_c31⟩
        | with_reducible exact ⟨Gr.cell HX2.out k3_c10, Gr.cell HX2.out k3_c11, Gr.cell HX2.out k3_c20, Gr.cell HX2.out k3_c21, Gr.cell HX2.out k3_c30, Gr.cell HX2.out k3_c31⟩
        | with_reducible exact ⟨Gr.cell HX3.out k3_c10, Gr.cell HX3.out k3_c11, Gr.cell HX3.out k3_c20, Gr.cell HX3.out k3_c21, Gr.cell HX3.out k3_c30, Gr.cell HX3.out k3_c31⟩
        | with_reducible exact ⟨Gr.cell HX4.out k3_c10, Gr.cell HX4.out k3_c11, Gr.cell HX4.out k3_c20, Gr.cell HX4.out k3_c21, Gr.cell HX4.out k3_c30, Gr.cell HX4.out k3_c31⟩
        | with_reducible exact ⟨Gr.cell HX5.out k3_c10, Gr.cell HX5.out k3_c11, Gr.cell HX5.out k3_c20, Gr.cell HX5.out k3_c21, Gr.cell HX5.out k3_c30, Gr.cell HX5.out k3_c31⟩)
      (first
        | (go_at_call 55; refine (awake2_c x4 (HT.out.gr (HG.out.trans HX4.out))).mono ?_; rintro e w8 ⟨rfl, hg⟩; have HX5 := hid (HX4.out.trans hg); clear hg)
        | (go_at_call 60; refine (HSC.out x3 _ (KC.out.gr HX3.out)).mono ?_; rintro e x4 ⟨rfl, hg⟩; have HX4 := hid (HX3.out.trans hg); clear hg)
        | (go_at_call 71; refine (HC6.out x2 _ _ HV1_2.out.az HV2_2.out.az).mono ?_; rintro e x3 ⟨rfl, hg⟩; have HX3 := hid (HX2.out.trans hg); clear hg)
        | (go_at_call 70; refine (zmul_c x1 _ _ b c 1048576 1048576 (KB.out.gr HX1.out) (KC.out.gr HX1.out) (by decide) (by decide)).mono ?_; rintro e x2 ⟨g2, rfl, hv, hg⟩; have HX2 := hid (HX1.out.trans hg); have HV2_2 := hid hv; have HV1_2 := hid (HV1_1.out.gr hg); clear hv hg)
        | (go_at_call 70; refine (zmul_c _ _ _ a c 1048576 1048576 (KA.out.gr ((Gr.refl w6).drew)) (KC.out.gr ((Gr.refl w6).drew)) (by decide) (by decide)).mono ?_; rintro e x1 ⟨g1, rfl, hv, hg⟩; have HX1 := hid (((Gr.refl w6).drew).trans hg); have HV1_1 := hid hv; clear hv hg))
    have k4_c10 := Gr.cell HX5.out k3_c10
    have k4_c11 := Gr.cell HX5.out k3_c11
    have k4_c20 := Gr.cell HX5.out k3_c20
    have k4_c21 := Gr.cell HX5.out k3_c21
    have k4_c30 := Gr.cell HX5.out k3_c30
    have k4_c31 := Gr.cell HX5.out k3_c31
    clear k3_c10 k3_c11 k3_c20 k3_c21 k3_c30 k3_c31
    replace KA := hid (KA.out.gr HX5.out)
    replace KB := hid (KB.out.gr HX5.out)
    replace KC := hid (KC.out.gr HX5.out)
    replace HG := hid (HG.out.trans HX5.out)
    clear HX1 HX2 HX3 HX4 HX5
    go_wp2
    go_ret
    exact ⟨rfl, HG.out⟩
end Go.Proofs.YtkbgdiejjabdmaaDoor
