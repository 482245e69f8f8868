/- The walk of the law IntegerRing. -/
import Derived.Test.YtkbgdiejjabdmaaDoorZp
import Derived.Test.YtkbgdiejjabdmaaDoorIntC
import Derived.Test.YtkbgdiejjabdmaaDoorAnyV
import Derived.Test.YtkbgdiejjabdmaaDoorIzW
import Derived.Deep.Cut
import Derived.Deep.RegionHeld3
namespace Go.Proofs.YtkbgdiejjabdmaaDoor
open Go.RowKit

set_option maxRecDepth 100000 in
set_option maxHeartbeats 16000000 in
theorem integerring_law (W : World) (ht : Tab W) {s1 : Bool} {A1 : Option Addr} {l1 c1 n1 : Nat} (h1 : AN W (.slice A1 l1 c1) n1 1048576) {s2 : Bool} {A2 : Option Addr} {l2 c2 n2 : Nat} (h2 : AN W (.slice A2 l2 c2) n2 1048576) {s3 : Bool} {A3 : Option Addr} {l3 c3 n3 : Nat} (h3 : AN W (.slice A3 l3 c3) n3 1048576) : Calls Tryd.prog 17 #[.agg #[.bool s1, .slice A1 l1 c1], .agg #[.bool s2, .slice A2 l2 c2], .agg #[.bool s3, .slice A3 l3 c3]] W (Is W (.bool true)) := by
  have HT := hid ht
  obtain ⟨a, hz1⟩ : ∃ z, z = sgnd s1 n1 := ⟨_, rfl⟩
  have KA : Hid (AZ W (.agg #[.bool s1, .slice A1 l1 c1]) a 1048576) := ⟨s1, _, n1, rfl, h1, hz1⟩
  obtain ⟨b, hz2⟩ : ∃ z, z = sgnd s2 n2 := ⟨_, rfl⟩
  have KB : Hid (AZ W (.agg #[.bool s2, .slice A2 l2 c2]) b 1048576) := ⟨s2, _, n2, rfl, h2, hz2⟩
  obtain ⟨c, hz3⟩ : ∃ z, z = sgnd s3 n3 := ⟨_, rfl⟩
  have KC : Hid (AZ W (.agg #[.bool s3, .slice A3 l3 c3]) c 1048576) := ⟨s3, _, n3, rfl, h3, hz3⟩
  obtain ⟨sa, hsa⟩ : ∃ k, k = a.sign := ⟨_, rfl⟩
  obtain ⟨sb, hsb⟩ : ∃ k, k = b.sign := ⟨_, rfl⟩
  obtain ⟨sm, hsm⟩ : ∃ k, k = (a * b).sign := ⟨_, rfl⟩
  have hmm : sm = sa * sb := by rw [hsm, hsa, hsb]; exact Int.sign_mul a b
  have har : -1 ≤ sa ∧ sa ≤ 1 := by rw [hsa]; exact sign_rngZ a
  have hbr : -1 ≤ sb ∧ sb ≤ 1 := by rw [hsb]; exact sign_rngZ b
  have hkm : IntKind.i64.wrap (sa * sb) = sm := by rw [hmm]; exact IntWalk.i64_in _ (mul_rngZ har hbr)
  have HMM := hid hmm
  have HOZ : Hid (∀ V : World, Calls Tryd.prog 57 #[.int .i64 0] V (Ret V fun v w' => VZ w' V.heap.size v 0 2)) := fun V => zof_c V 0 (by decide) (by decide)
  have HOO : Hid (∀ V : World, Calls Tryd.prog 57 #[.int .i64 1] V (Ret V fun v w' => VZ w' V.heap.size v 1 2)) := fun V => zof_c V 1 (by decide) (by decide)
  have HGA : Hid (∀ (V : World) (u : Value), AZ V u (a) 1048576 → Calls Tryd.prog 60 #[u] V (Is V (.int .i64 sa))) := fun V u h1 => by
    have h := sign_c V u _ 1048576 h1 (by decide)
    rw [← hsa] at h
    exact h
  have HGB : Hid (∀ (V : World) (u : Value), AZ V u (b) 1048576 → Calls Tryd.prog 60 #[u] V (Is V (.int .i64 sb))) := fun V u h1 => by
    have h := sign_c V u _ 1048576 h1 (by decide)
    rw [← hsb] at h
    exact h
  have HGM : Hid (∀ (V : World) (u : Value), AZ V u (a * b) 2097152 → Calls Tryd.prog 60 #[u] V (Is V (.int .i64 sm))) := fun V u h1 => by
    have h := sign_c V u _ 2097152 h1 (by decide)
    rw [← hsm] at h
    exact h
  have HS1 : Hid (∀ (V : World) (b1 b2 : Nat) (u v : Value), VZ V b1 u (a + b) 1048577 → VZ V b2 v (b + a) 1048577 → Calls Tryd.prog 52 #[u, v] V (Is V (.bool true))) := fun V b1 b2 u v h1 h2 => by
    have h := zsame_c V b1 b2 u v _ _ 1048577 (h1.le (by decide)) (h2.le (by decide)) (by decide)
    rw [decide_eq_true (Int.add_comm a b)] at h
    exact h
  have HS2 : Hid (∀ (V : World) (b1 b2 : Nat) (u v : Value), VZ V b1 u (a * b) 2097152 → VZ V b2 v (b * a) 2097152 → Calls Tryd.prog 52 #[u, v] V (Is V (.bool true))) := fun V b1 b2 u v h1 h2 => by
    have h := zsame_c V b1 b2 u v _ _ 2097152 (h1.le (by decide)) (h2.le (by decide)) (by decide)
    rw [decide_eq_true (Int.mul_comm a b)] at h
    exact h
  have HS3 : Hid (∀ (V : World) (b1 b2 : Nat) (u v : Value), VZ V b1 u (a + b + c) 1048578 → VZ V b2 v (a + (b + c)) 1048578 → Calls Tryd.prog 52 #[u, v] V (Is V (.bool true))) := fun V b1 b2 u v h1 h2 => by
    have h := zsame_c V b1 b2 u v _ _ 1048578 (h1.le (by decide)) (h2.le (by decide)) (by decide)
    rw [decide_eq_true (Int.add_assoc a b c)] at h
    exact h
  have HS4 : Hid (∀ (V : World) (b1 b2 : Nat) (u v : Value), VZ V b1 u (a * b * c) 3145728 → VZ V b2 v (a * (b * c)) 3145728 → Calls Tryd.prog 52 #[u, v] V (Is V (.bool true))) := fun V b1 b2 u v h1 h2 => by
    have h := zsame_c V b1 b2 u v _ _ 3145728 (h1.le (by decide)) (h2.le (by decide)) (by decide)
    rw [decide_eq_true (Int.mul_assoc a b c)] at h
    exact h
  have HS5 : Hid (∀ (V : World) (b1 b2 : Nat) (u v : Value), VZ V b1 u ((a + b) * c) 2097153 → VZ V b2 v (a * c + b * c) 2097153 → Calls Tryd.prog 52 #[u, v] V (Is V (.bool true))) := fun V b1 b2 u v h1 h2 => by
    have h := zsame_c V b1 b2 u v _ _ 2097153 (h1.le (by decide)) (h2.le (by decide)) (by decide)
    rw [decide_eq_true (Int.add_mul a b c)] at h
    exact h
  have HS6 : Hid (∀ (V : World) (b1 b2 : Nat) (u v : Value), VZ V b1 u (a + 0) 1048577 → VZ V b2 v (a) 1048576 → Calls Tryd.prog 52 #[u, v] V (Is V (.bool true))) := fun V b1 b2 u v h1 h2 => by
    have h := zsame_c V b1 b2 u v _ _ 1048577 (h1.le (by decide)) (h2.le (by decide)) (by decide)
    rw [decide_eq_true (Int.add_zero a)] at h
    exact h
  have HS7 : Hid (∀ (V : World) (b1 b2 : Nat) (u v : Value), VZ V b1 u (a * 1) 1048578 → VZ V b2 v (a) 1048576 → Calls Tryd.prog 52 #[u, v] V (Is V (.bool true))) := fun V b1 b2 u v h1 h2 => by
    have h := zsame_c V b1 b2 u v _ _ 1048578 (h1.le (by decide)) (h2.le (by decide)) (by decide)
    rw [decide_eq_true (Int.mul_one a)] at h
    exact h
  have HS8 : Hid (∀ (V : World) (b1 b2 : Nat) (u v : Value), VZ V b1 u (a * 0) 1048578 → VZ V b2 v (0) 2 → Calls Tryd.prog 52 #[u, v] V (Is V (.bool true))) := fun V b1 b2 u v h1 h2 => by
    have h := zsame_c V b1 b2 u v _ _ 1048578 (h1.le (by decide)) (h2.le (by decide)) (by decide)
    rw [decide_eq_true (Int.mul_zero a)] at h
    exact h
  have HS9 : Hid (∀ (V : World) (b1 b2 : Nat) (u v : Value), VZ V b1 u (a + -a) 1048577 → VZ V b2 v (0) 2 → Calls Tryd.prog 52 #[u, v] V (Is V (.bool true))) := fun V b1 b2 u v h1 h2 => by
    have h := zsame_c V b1 b2 u v _ _ 1048577 (h1.le (by decide)) (h2.le (by decide)) (by decide)
    rw [decide_eq_true (Int.add_right_neg a)] at h
    exact h
  have HS10 : Hid (∀ (V : World) (b1 b2 : Nat) (u v : Value), VZ V b1 u (a - b) 1048577 → VZ V b2 v (a + -b) 1048577 → Calls Tryd.prog 52 #[u, v] V (Is V (.bool true))) := fun V b1 b2 u v h1 h2 => by
    have h := zsame_c V b1 b2 u v _ _ 1048577 (h1.le (by decide)) (h2.le (by decide)) (by decide)
    rw [decide_eq_true (Int.sub_eq_add_neg)] at h
    exact h
  have HS11 : Hid (∀ (V : World) (b1 b2 : Nat) (u v : Value), VZ V b1 u (- -a) 1048576 → VZ V b2 v (a) 1048576 → Calls Tryd.prog 52 #[u, v] V (Is V (.bool true))) := fun V b1 b2 u v h1 h2 => by
    have h := zsame_c V b1 b2 u v _ _ 1048576 (h1.le (by decide)) (h2.le (by decide)) (by decide)
    rw [decide_eq_true (Int.neg_neg a)] at h
    exact h
  clear ht h1 h2 h3 hz1 hz2 hz3 hsa hsb hsm hmm har hbr
  go_enter Tryd.func17, Tryd.ntmps17
  go_upto_region 1 with (fail)
  obtain ⟨W0, hW⟩ : ∃ V, V = ((W.alloc (.cells #[.bool s1, .slice A1 l1 c1] 51)).alloc (.cells #[.bool s2, .slice A2 l2 c2] 51)).alloc (.cells #[.bool s3, .slice A3 l3 c3] 51) := ⟨_, rfl⟩
  obtain ⟨hg, bb0, bb1, bb2⟩ := al3 W #[.bool s1, .slice A1 l1 c1] #[.bool s2, .slice A2 l2 c2] #[.bool s3, .slice A3 l3 c3] 51 51 51
  rw [← hW] at hg bb0 bb1 bb2 ⊢
  clear hW
  have c10 : W0.cell? ⟨W.heap.size, 0, none⟩ = some (.bool s1) := bb0.c 0 rfl
  have c11 : W0.cell? ⟨W.heap.size, 1, none⟩ = some (.slice A1 l1 c1) := bb0.c 1 rfl
  have KA := hid (KA.out.gr hg)
  have c20 : W0.cell? ⟨W.heap.size + 1, 0, none⟩ = some (.bool s2) := bb1.c 0 rfl
  have c21 : W0.cell? ⟨W.heap.size + 1, 1, none⟩ = some (.slice A2 l2 c2) := bb1.c 1 rfl
  have KB := hid (KB.out.gr hg)
  have c30 : W0.cell? ⟨W.heap.size + 2, 0, none⟩ = some (.bool s3) := bb2.c 0 rfl
  have c31 : W0.cell? ⟨W.heap.size + 2, 1, none⟩ = some (.slice A3 l3 c3) := bb2.c 1 rfl
  have KC := hid (KC.out.gr hg)
  have HG := hid hg
  clear hg bb0 bb1 bb2
  go_wp2_with fail
  refine (HOZ.out W0).mono ?_
  rintro e w1 ⟨v1, rfl, hv, hg⟩
  have k1_c10 := Gr.cell hg c10
  have k1_c11 := Gr.cell hg c11
  have k1_c20 := Gr.cell hg c20
  have k1_c21 := Gr.cell hg c21
  have k1_c30 := Gr.cell hg c30
  have k1_c31 := Gr.cell hg c31
  clear c10 c11 c20 c21 c30 c31
  replace KA := hid (KA.out.gr hg)
  replace KB := hid (KB.out.gr hg)
  replace KC := hid (KC.out.gr hg)
  replace HG := hid (HG.out.trans hg)
  clear hg
  obtain ⟨Az, lz, cz, rfl, hv⟩ := hv.form
  obtain ⟨bsz, hs⟩ : ∃ y0, y0 = decide ((0 : Int) < 0) := ⟨_, rfl⟩
  rw [← hs] at hv ⊢
  clear hs
  have KZ := hid hv
  clear hv
  obtain ⟨W1, hW⟩ : ∃ V, V = w1.alloc (.cells #[.bool bsz, .slice Az lz cz] 51) := ⟨_, rfl⟩
  go_upto_region 2 with (fail)
  obtain ⟨hg, bb⟩ := al1 w1 #[.bool bsz, .slice Az lz cz] 51
  rw [← hW] at hg bb ⊢
  clear hW
  have k2_c10 := Gr.cell hg k1_c10
  have k2_c11 := Gr.cell hg k1_c11
  have k2_c20 := Gr.cell hg k1_c20
  have k2_c21 := Gr.cell hg k1_c21
  have k2_c30 := Gr.cell hg k1_c30
  have k2_c31 := Gr.cell hg k1_c31
  clear k1_c10 k1_c11 k1_c20 k1_c21 k1_c30 k1_c31
  replace KA := hid (KA.out.gr hg)
  replace KB := hid (KB.out.gr hg)
  replace KC := hid (KC.out.gr hg)
  replace KZ := hid (KZ.out.gr hg)
  replace HG := hid (HG.out.trans hg)
  have cz0 : W1.cell? ⟨w1.heap.size, 0, none⟩ = some (.bool bsz) := bb.c 0 rfl
  have cz1 : W1.cell? ⟨w1.heap.size, 1, none⟩ = some (.slice Az lz cz) := bb.c 1 rfl
  clear hg bb
  go_wp2_with fail
  refine (HOO.out W1).mono ?_
  rintro e w2 ⟨v1, rfl, hv, hg⟩
  have k3_c10 := Gr.cell hg k2_c10
  have k3_c11 := Gr.cell hg k2_c11
  have k3_c20 := Gr.cell hg k2_c20
  have k3_c21 := Gr.cell hg k2_c21
  have k3_c30 := Gr.cell hg k2_c30
  have k3_c31 := Gr.cell hg k2_c31
  have k3_cz0 := Gr.cell hg cz0
  have k3_cz1 := Gr.cell hg cz1
  clear k2_c10 k2_c11 k2_c20 k2_c21 k2_c30 k2_c31 cz0 cz1
  replace KA := hid (KA.out.gr hg)
  replace KB := hid (KB.out.gr hg)
  replace KC := hid (KC.out.gr hg)
  replace KZ := hid (KZ.out.gr hg)
  replace HG := hid (HG.out.trans hg)
  clear hg
  obtain ⟨Ao, lo, co, rfl, hv⟩ := hv.form
  obtain ⟨bso, hs⟩ : ∃ y0, y0 = decide ((1 : Int) < 0) := ⟨_, rfl⟩
  rw [← hs] at hv ⊢
  clear hs
  have KO := hid hv
  clear hv
  obtain ⟨W2, hW⟩ : ∃ V, V = w2.alloc (.cells #[.bool bso, .slice Ao lo co] 51) := ⟨_, rfl⟩
  go_upto_region 3 with (fail)
  obtain ⟨hg, bb⟩ := al1 w2 #[.bool bso, .slice Ao lo co] 51
  rw [← hW] at hg bb ⊢
  clear hW
  have k4_c10 := Gr.cell hg k3_c10
  have k4_c11 := Gr.cell hg k3_c11
  have k4_c20 := Gr.cell hg k3_c20
  have k4_c21 := Gr.cell hg k3_c21
  have k4_c30 := Gr.cell hg k3_c30
  have k4_c31 := Gr.cell hg k3_c31
  have k4_cz0 := Gr.cell hg k3_cz0
  have k4_cz1 := Gr.cell hg k3_cz1
  clear k3_c10 k3_c11 k3_c20 k3_c21 k3_c30 k3_c31 k3_cz0 k3_cz1
  replace KA := hid (KA.out.gr hg)
  replace KB := hid (KB.out.gr hg)
  replace KC := hid (KC.out.gr hg)
  replace KZ := hid (KZ.out.gr hg)
  replace KO := hid (KO.out.gr hg)
  replace HG := hid (HG.out.trans hg)
  have co0 : W2.cell? ⟨w2.heap.size, 0, none⟩ = some (.bool bso) := bb.c 0 rfl
  have co1 : W2.cell? ⟨w2.heap.size, 1, none⟩ = some (.slice Ao lo co) := bb.c 1 rfl
  clear hg bb
  go_wp2_with fail
  refine (zadd_c W2 _ _ a b 1048576 KA.out KB.out (by decide)).mono ?_
  rintro e w3 ⟨v1, rfl, hv, hg⟩
  have k5_c10 := Gr.cell hg k4_c10
  have k5_c11 := Gr.cell hg k4_c11
  have k5_c20 := Gr.cell hg k4_c20
  have k5_c21 := Gr.cell hg k4_c21
  have k5_c30 := Gr.cell hg k4_c30
  have k5_c31 := Gr.cell hg k4_c31
  have k5_cz0 := Gr.cell hg k4_cz0
  have k5_cz1 := Gr.cell hg k4_cz1
  have k5_co0 := Gr.cell hg co0
  have k5_co1 := Gr.cell hg co1
  clear k4_c10 k4_c11 k4_c20 k4_c21 k4_c30 k4_c31 k4_cz0 k4_cz1 co0 co1
  replace KA := hid (KA.out.gr hg)
  replace KB := hid (KB.out.gr hg)
  replace KC := hid (KC.out.gr hg)
  replace KZ := hid (KZ.out.gr hg)
  replace KO := hid (KO.out.gr hg)
  replace HG := hid (HG.out.trans hg)
  clear hg
  obtain ⟨As, ls, cs, rfl, hv⟩ := hv.form
  obtain ⟨bss, hs⟩ : ∃ y0, y0 = decide ((a + b : Int) < 0) := ⟨_, rfl⟩
  rw [← hs] at hv ⊢
  clear hs
  have KS := hid hv
  clear hv
  obtain ⟨W3, hW⟩ : ∃ V, V = w3.alloc (.cells #[.bool bss, .slice As ls cs] 51) := ⟨_, rfl⟩
  go_upto_region 4 with (fail)
  obtain ⟨hg, bb⟩ := al1 w3 #[.bool bss, .slice As ls cs] 51
  rw [← hW] at hg bb ⊢
  clear hW
  have k6_c10 := Gr.cell hg k5_c10
  have k6_c11 := Gr.cell hg k5_c11
  have k6_c20 := Gr.cell hg k5_c20
  have k6_c21 := Gr.cell hg k5_c21
  have k6_c30 := Gr.cell hg k5_c30
  have k6_c31 := Gr.cell hg k5_c31
  have k6_cz0 := Gr.cell hg k5_cz0
  have k6_cz1 := Gr.cell hg k5_cz1
  have k6_co0 := Gr.cell hg k5_co0
  have k6_co1 := Gr.cell hg k5_co1
  clear k5_c10 k5_c11 k5_c20 k5_c21 k5_c30 k5_c31 k5_cz0 k5_cz1 k5_co0 k5_co1
  replace KA := hid (KA.out.gr hg)
  replace KB := hid (KB.out.gr hg)
  replace KC := hid (KC.out.gr hg)
  replace KZ := hid (KZ.out.gr hg)
  replace KO := hid (KO.out.gr hg)
  replace KS := hid (KS.out.gr hg)
  replace HG := hid (HG.out.trans hg)
  have cs0 : W3.cell? ⟨w3.heap.size, 0, none⟩ = some (.bool bss) := bb.c 0 rfl
  have cs1 : W3.cell? ⟨w3.heap.size, 1, none⟩ = some (.slice As ls cs) := bb.c 1 rfl
  clear hg bb
  go_wp2_with fail
  refine (zmul_c W3 _ _ a b 1048576 1048576 KA.out KB.out (by decide) (by decide)).mono ?_
  rintro e w4 ⟨v1, rfl, hv, hg⟩
  have k7_c10 := Gr.cell hg k6_c10
  have k7_c11 := Gr.cell hg k6_c11
  have k7_c20 := Gr.cell hg k6_c20
  have k7_c21 := Gr.cell hg k6_c21
  have k7_c30 := Gr.cell hg k6_c30
  have k7_c31 := Gr.cell hg k6_c31
  have k7_cz0 := Gr.cell hg k6_cz0
  have k7_cz1 := Gr.cell hg k6_cz1
  have k7_co0 := Gr.cell hg k6_co0
  have k7_co1 := Gr.cell hg k6_co1
  have k7_cs0 := Gr.cell hg cs0
  have k7_cs1 := Gr.cell hg cs1
  clear k6_c10 k6_c11 k6_c20 k6_c21 k6_c30 k6_c31 k6_cz0 k6_cz1 k6_co0 k6_co1 cs0 cs1
  replace KA := hid (KA.out.gr hg)
  replace KB := hid (KB.out.gr hg)
  replace KC := hid (KC.out.gr hg)
  replace KZ := hid (KZ.out.gr hg)
  replace KO := hid (KO.out.gr hg)
  replace KS := hid (KS.out.gr hg)
  replace HG := hid (HG.out.trans hg)
  clear hg
  obtain ⟨Am, lm, cm, rfl, hv⟩ := hv.form
  obtain ⟨bsm, hs⟩ : ∃ y0, y0 = decide ((a * b : Int) < 0) := ⟨_, rfl⟩
  rw [← hs] at hv ⊢
  clear hs
  have KM := hid hv
  clear hv
  obtain ⟨W4, hW⟩ : ∃ V, V = w4.alloc (.cells #[.bool bsm, .slice Am lm cm] 51) := ⟨_, rfl⟩
  go_upto_region 5 with (fail)
  obtain ⟨hg, bb⟩ := al1 w4 #[.bool bsm, .slice Am lm cm] 51
  rw [← hW] at hg bb ⊢
  clear hW
  have k8_c10 := Gr.cell hg k7_c10
  have k8_c11 := Gr.cell hg k7_c11
  have k8_c20 := Gr.cell hg k7_c20
  have k8_c21 := Gr.cell hg k7_c21
  have k8_c30 := Gr.cell hg k7_c30
  have k8_c31 := Gr.cell hg k7_c31
  have k8_cz0 := Gr.cell hg k7_cz0
  have k8_cz1 := Gr.cell hg k7_cz1
  have k8_co0 := Gr.cell hg k7_co0
  have k8_co1 := Gr.cell hg k7_co1
  have k8_cs0 := Gr.cell hg k7_cs0
  have k8_cs1 := Gr.cell hg k7_cs1
  clear k7_c10 k7_c11 k7_c20 k7_c21 k7_c30 k7_c31 k7_cz0 k7_cz1 k7_co0 k7_co1 k7_cs0 k7_cs1
  replace KA := hid (KA.out.gr hg)
  replace KB := hid (KB.out.gr hg)
  replace KC := hid (KC.out.gr hg)
  replace KZ := hid (KZ.out.gr hg)
  replace KO := hid (KO.out.gr hg)
  replace KS := hid (KS.out.gr hg)
  replace KM := hid (KM.out.gr hg)
  replace HG := hid (HG.out.trans hg)
  have cm0 : W4.cell? ⟨w4.heap.size, 0, none⟩ = some (.bool bsm) := bb.c 0 rfl
  have cm1 : W4.cell? ⟨w4.heap.size, 1, none⟩ = some (.slice Am lm cm) := bb.c 1 rfl
  clear hg bb
  go_region_held3 (fun V => V.cell? ⟨W.heap.size, 0, none⟩ = some (.bool s1) ∧ V.cell? ⟨W.heap.size, 1, none⟩ = some (.slice A1 l1 c1) ∧ V.cell? ⟨W.heap.size + 1, 0, none⟩ = some (.bool s2) ∧ V.cell? ⟨W.heap.size + 1, 1, none⟩ = some (.slice A2 l2 c2) ∧ V.cell? ⟨W.heap.size + 2, 0, none⟩ = some (.bool s3) ∧ V.cell? ⟨W.heap.size + 2, 1, none⟩ = some (.slice A3 l3 c3) ∧ V.cell? ⟨w1.heap.size, 0, none⟩ = some (.bool bsz) ∧ V.cell? ⟨w1.heap.size, 1, none⟩ = some (.slice Az lz cz) ∧ V.cell? ⟨w2.heap.size, 0, none⟩ = some (.bool bso) ∧ V.cell? ⟨w2.heap.size, 1, none⟩ = some (.slice Ao lo co) ∧ V.cell? ⟨w3.heap.size, 0, none⟩ = some (.bool bss) ∧ V.cell? ⟨w3.heap.size, 1, none⟩ = some (.slice As ls cs) ∧ V.cell? ⟨w4.heap.size, 0, none⟩ = some (.bool bsm) ∧ V.cell? ⟨w4.heap.size, 1, none⟩ = some (.slice Am lm cm))
    (first
      | exact ⟨k8_c10, k8_c11, k8_c20, k8_c21, k8_c30, k8_c31, k8_cz0, k8_cz1, k8_co0, k8_co1, k8_cs0, k8_cs1, cm0, cm1⟩
      | with_reducible exact ⟨Gr.cell HX1.out k8_c10, Gr.cell HX1.out k8_c11, Gr.cell HX1.out k8_c20, Gr.cell HX1.out k8_c21, Gr.cell HX1.out k8_c30, Gr.cell HX1.out k8_c31, Gr.cell HX1.out k8_cz0, Gr.cell HX1.out k8_cz1, Gr.cell HX1.out k8_co0, Gr.cell HX1.out k8_co1, Gr.cell HX1.out k8_cs0, Gr.cell HX1.out k8_cs1, Gr.cell HX1.out cm0, Gr.cell HX1.out cm1⟩
      | with_reducible exact ⟨Gr.cell HX2.out k8_c10, Gr.cell HX2.out k8_c11, Gr.cell HX2.out k8_c20, Gr.cell HX2.out k8_c21, Gr.cell HX2.out k8_c30, Gr.cell HX2.out k8_c31, Gr.cell HX2.out k8_cz0, Gr.cell HX2.out k8_cz1, Gr.cell HX2.out k8_co0, Gr.cell HX2.out k8_co1, Gr.cell HX2.out k8_cs0, Gr.cell HX2.out k8_cs1, Gr.cell HX2.out cm0, Gr.cell HX2.out cm1⟩
      | with_reducible exact ⟨Gr.cell HX3.out k8_c10, Gr.cell HX3.out k8_c11, Gr.cell HX3.out k8_c20, Gr.cell HX3.out k8_c21, Gr.cell HX3.out k8_c30, Gr.cell HX3.out k8_c31, Gr.cell HX3.out k8_cz0, Gr.cell HX3.out k8_cz1, Gr.cell HX3.out k8_co0, Gr.cell HX3.out k8_co1, Gr.cell HX3.out k8_cs0, Gr.cell HX3.out k8_cs1, Gr.cell HX3.out cm0, Gr.cell HX3.out cm1⟩
      | with_reducible exact ⟨Gr.cell HX4.out k8_c10, Gr.cell HX4.out k8_c11, Gr.cell HX4.out k8_c20, Gr.cell HX4.out k8_c21, Gr.cell HX4.out k8_c30, Gr.cell HX4.out k8_c31, Gr.cell HX4.out k8_cz0, Gr.cell HX4.out k8_cz1, Gr.cell HX4.out k8_co0, Gr.cell HX4.out k8_co1, Gr.cell HX4.out k8_cs0, Gr.cell HX4.out k8_cs1, Gr.cell HX4.out cm0, Gr.cell HX4.out cm1⟩
      | with_reducible exact ⟨Gr.cell HX5.out k8_c10, Gr.cell HX5.out k8_c11, Gr.cell HX5.out k8_c20, Gr.cell HX5.out k8_c21, Gr.cell HX5.out k8_c30, Gr.cell HX5.out k8_c31, Gr.cell HX5.out k8_cz0, Gr.cell HX5.out k8_cz1, Gr.cell HX5.out k8_co0, Gr.cell HX5.out k8_co1, Gr.cell HX5.out k8_cs0, Gr.cell HX5.out k8_cs1, Gr.cell HX5.out cm0, Gr.cell HX5.out cm1⟩
      | with_reducible exact ⟨Gr.cell HX6.out k8_c10, Gr.cell HX6.out k8_c11, Gr.cell HX6.out k8_c20, Gr.cell HX6.out k8_c21, Gr.cell HX6.out k8_c30, Gr.cell HX6.out k8_c31, Gr.cell HX6.out k8_cz0, Gr.cell HX6.out k8_cz1, Gr.cell HX6.out k8_co0, Gr.cell HX6.out k8_co1, Gr.cell HX6.out k8_cs0, Gr.cell HX6.out k8_cs1, Gr.cell HX6.out cm0, Gr.cell HX6.out cm1⟩
      | with_reducible exact ⟨Gr.cell HX7.out k8_c10, Gr.cell HX7.out k8_c11, Gr.cell HX7.out k8_c20, Gr.cell HX7.out k8_c21, Gr.cell HX7.out k8_c30, Gr.cell HX7.out k8_c31, Gr.cell HX7.out k8_cz0, Gr.cell HX7.out k8_cz1, Gr.cell HX7.out k8_co0, Gr.cell HX7.out k8_co1, Gr.cell HX7.out k8_cs0, Gr.cell HX7.out k8_cs1, Gr.cell HX7.out cm0, Gr.cell HX7.out cm1⟩
      | with_reducible exact ⟨Gr.cell HX8.out k8_c10, Gr.cell HX8.out k8_c11, Gr.cell HX8.out k8_c20, Gr.cell HX8.out k8_c21, Gr.cell HX8.out k8_c30, Gr.cell HX8.out k8_c31, Gr.cell HX8.out k8_cz0, Gr.cell HX8.out k8_cz1, Gr.cell HX8.out k8_co0, Gr.cell HX8.out k8_co1, Gr.cell HX8.out k8_cs0, Gr.cell HX8.out k8_cs1, Gr.cell HX8.out cm0, Gr.cell HX8.out cm1⟩)
    (first
      | (go_at_call 52; refine (HS3.out x7 _ _ _ _ HV5_7.out HV7_7.out).mono ?_; rintro e w5 ⟨rfl, hg⟩; have HX8 := hid (HX7.out.trans hg); clear hg)
      | (go_at_call 69; refine (zadd_c x6 _ _ a (b + c) 1048577 ((KA.out.gr HX6.out).le (by decide)) HV6_6.out.az (by decide)).mono ?_; rintro e x7 ⟨g7, rfl, hv, hg⟩; have HX7 := hid (HX6.out.trans hg); have HV7_7 := hid hv; have HV5_7 := hid (HV5_6.out.gr hg); clear hv hg)
      | (go_at_call 69; refine (zadd_c x5 _ _ b c 1048576 (KB.out.gr HX5.out) (KC.out.gr HX5.out) (by decide)).mono ?_; rintro e x6 ⟨g6, rfl, hv, hg⟩; have HX6 := hid (HX5.out.trans hg); have HV6_6 := hid hv; have HV5_6 := hid (HV5_5.out.gr hg); clear hv hg)
      | (go_at_call 69; refine (zadd_c x4 _ _ (a + b) c 1048577 (KS.out.gr HX4.out).az ((KC.out.gr HX4.out).le (by decide)) (by decide)).mono ?_; rintro e x5 ⟨g5, rfl, hv, hg⟩; have HX5 := hid (HX4.out.trans hg); have HV5_5 := hid hv; clear hv hg)
      | (go_at_call 52; refine (HS2.out x3 _ _ _ _ (KM.out.gr HX3.out) HV3_3.out).mono ?_; rintro e x4 ⟨rfl, hg⟩; have HX4 := hid (HX3.out.trans hg); clear hg)
      | (go_at_call 70; refine (zmul_c x2 _ _ b a 1048576 1048576 (KB.out.gr HX2.out) (KA.out.gr HX2.out) (by decide) (by decide)).mono ?_; rintro e x3 ⟨g3, rfl, hv, hg⟩; have HX3 := hid (HX2.out.trans hg); have HV3_3 := hid hv; clear hv hg)
      | (go_at_call 52; refine (HS1.out x1 _ _ _ _ (KS.out.gr HX1.out) HV1_1.out).mono ?_; rintro e x2 ⟨rfl, hg⟩; have HX2 := hid (HX1.out.trans hg); clear hg)
      | (go_at_call 69; refine (zadd_c _ _ _ b a 1048576 (KB.out.gr ((Gr.refl W4).drew)) (KA.out.gr ((Gr.refl W4).drew)) (by decide)).mono ?_; rintro e x1 ⟨g1, rfl, hv, hg⟩; have HX1 := hid (((Gr.refl W4).drew).trans hg); have HV1_1 := hid hv; clear hv hg))
  have k9_c10 := Gr.cell HX8.out k8_c10
  have k9_c11 := Gr.cell HX8.out k8_c11
  have k9_c20 := Gr.cell HX8.out k8_c20
  have k9_c21 := Gr.cell HX8.out k8_c21
  have k9_c30 := Gr.cell HX8.out k8_c30
  have k9_c31 := Gr.cell HX8.out k8_c31
  have k9_cz0 := Gr.cell HX8.out k8_cz0
  have k9_cz1 := Gr.cell HX8.out k8_cz1
  have k9_co0 := Gr.cell HX8.out k8_co0
  have k9_co1 := Gr.cell HX8.out k8_co1
  have k9_cs0 := Gr.cell HX8.out k8_cs0
  have k9_cs1 := Gr.cell HX8.out k8_cs1
  have k9_cm0 := Gr.cell HX8.out cm0
  have k9_cm1 := Gr.cell HX8.out cm1
  clear k8_c10 k8_c11 k8_c20 k8_c21 k8_c30 k8_c31 k8_cz0 k8_cz1 k8_co0 k8_co1 k8_cs0 k8_cs1 cm0 cm1
  replace KA := hid (KA.out.gr HX8.out)
  replace KB := hid (KB.out.gr HX8.out)
  replace KC := hid (KC.out.gr HX8.out)
  replace KZ := hid (KZ.out.gr HX8.out)
  replace KO := hid (KO.out.gr HX8.out)
  replace KS := hid (KS.out.gr HX8.out)
  replace KM := hid (KM.out.gr HX8.out)
  replace HG := hid (HG.out.trans HX8.out)
  clear HX1 HX2 HX3 HX4 HX5 HX6 HX7 HX8
  go_wp2
  go_region_held3 (fun V => V.cell? ⟨W.heap.size, 0, none⟩ = some (.bool s1) ∧ V.cell? ⟨W.heap.size, 1, none⟩ = some (.slice A1 l1 c1) ∧ V.cell? ⟨W.heap.size + 1, 0, none⟩ = some (.bool s2) ∧ V.cell? ⟨W.heap.size + 1, 1, none⟩ = some (.slice A2 l2 c2) ∧ V.cell? ⟨W.heap.size + 2, 0, none⟩ = some (.bool s3) ∧ V.cell? ⟨W.heap.size + 2, 1, none⟩ = some (.slice A3 l3 c3) ∧ V.cell? ⟨w1.heap.size, 0, none⟩ = some (.bool bsz) ∧ V.cell? ⟨w1.heap.size, 1, none⟩ = some (.slice Az lz cz) ∧ V.cell? ⟨w2.heap.size, 0, none⟩ = some (.bool bso) ∧ V.cell? ⟨w2.heap.size, 1, none⟩ = some (.slice Ao lo co) ∧ V.cell? ⟨w3.heap.size, 0, none⟩ = some (.bool bss) ∧ V.cell? ⟨w3.heap.size, 1, none⟩ = some (.slice As ls cs) ∧ V.cell? ⟨w4.heap.size, 0, none⟩ = some (.bool bsm) ∧ V.cell? ⟨w4.heap.size, 1, none⟩ = some (.slice Am lm cm))
    (first
      | exact ⟨k9_c10, k9_c11, k9_c20, k9_c21, k9_c30, k9_c31, k9_cz0, k9_cz1, k9_co0, k9_co1, k9_cs0, k9_cs1, k9_cm0, k9_cm1⟩
      | with_reducible exact ⟨Gr.cell HX1.out k9_c10, Gr.cell HX1.out k9_c11, Gr.cell HX1.out k9_c20, Gr.cell HX1.out k9_c21, Gr.cell HX1.out k9_c30, Gr.cell HX1.out k9_c31, Gr.cell HX1.out k9_cz0, Gr.cell HX1.out k9_cz1, Gr.cell HX1.out k9_co0, Gr.cell HX1.out k9_co1, Gr.cell HX1.out k9_cs0, Gr.cell HX1.out k9_cs1, Gr.cell HX1.out k9_cm0, Gr.cell HX1.out k9_cm1⟩
      | with_reducible exact ⟨Gr.cell HX2.out k9_c10, Gr.cell HX2.out k9_c11, Gr.cell HX2.out k9_c20, Gr.cell HX2.out k9_c21, Gr.cell HX2.out k9_c30, Gr.cell HX2.out k9_c31, Gr.cell HX2.out k9_cz0, Gr.cell HX2.out k9_cz1, Gr.cell HX2.out k9_co0, Gr.cell HX2.out k9_co1, Gr.cell HX2.out k9_cs0, Gr.cell HX2.out k9_cs1, Gr.cell HX2.out k9_cm0, Gr.cell HX2.out k9_cm1⟩
      | with_reducible exact ⟨Gr.cell HX3.out k9_c10, Gr.cell HX3.out k9_c11, Gr.cell HX3.out k9_c20, Gr.cell HX3.out k9_c21, Gr.cell HX3.out k9_c30, Gr.cell HX3.out k9_c31, Gr.cell HX3.out k9_cz0, Gr.cell HX3.out k9_cz1, Gr.cell HX3.out k9_co0, Gr.cell HX3.out k9_co1, Gr.cell HX3.out k9_cs0, Gr.cell HX3.out k9_cs1, Gr.cell HX3.out k9_cm0, Gr.cell HX3.out k9_cm1⟩
      | with_reducible exact ⟨Gr.cell HX4.out k9_c10, Gr.cell HX4.out k9_c11, Gr.cell HX4.out k9_c20, Gr.cell HX4.out k9_c21, Gr.cell HX4.out k9_c30, Gr.cell HX4.out k9_c31, Gr.cell HX4.out k9_cz0, Gr.cell HX4.out k9_cz1, Gr.cell HX4.out k9_co0, Gr.cell HX4.out k9_co1, Gr.cell HX4.out k9_cs0, Gr.cell HX4.out k9_cs1, Gr.cell HX4.out k9_cm0, Gr.cell HX4.out k9_cm1⟩
      | with_reducible exact ⟨Gr.cell HX5.out k9_c10, Gr.cell HX5.out k9_c11, Gr.cell HX5.out k9_c20, Gr.cell HX5.out k9_c21, Gr.cell HX5.out k9_c30, Gr.cell HX5.out k9_c31, Gr.cell HX5.out k9_cz0, Gr.cell HX5.out k9_cz1, Gr.cell HX5.out k9_co0, Gr.cell HX5.out k9_co1, Gr.cell HX5.out k9_cs0, Gr.cell HX5.out k9_cs1, Gr.cell HX5.out k9_cm0, Gr.cell HX5.out k9_cm1⟩
      | with_reducible exact ⟨Gr.cell HX6.out k9_c10, Gr.cell HX6.out k9_c11, Gr.cell HX6.out k9_c20, Gr.cell HX6.out k9_c21, Gr.cell HX6.out k9_c30, Gr.cell HX6.out k9_c31, Gr.cell HX6.out k9_cz0, Gr.cell HX6.out k9_cz1, Gr.cell HX6.out k9_co0, Gr.cell HX6.out k9_co1, Gr.cell HX6.out k9_cs0, Gr.cell HX6.out k9_cs1, Gr.cell HX6.out k9_cm0, Gr.cell HX6.out k9_cm1⟩
      | with_reducible exact ⟨Gr.cell HX7.out k9_c10, Gr.cell HX7.out k9_c11, Gr.cell HX7.out k9_c20, Gr.cell HX7.out k9_c21, Gr.cell HX7.out k9_c30, Gr.cell HX7.out k9_c31, Gr.cell HX7.out k9_cz0, Gr.cell HX7.out k9_cz1, Gr.cell HX7.out k9_co0, Gr.cell HX7.out k9_co1, Gr.cell HX7.out k9_cs0, Gr.cell HX7.out k9_cs1, Gr.cell HX7.out k9_cm0, Gr.cell HX7.out k9_cm1⟩
      | with_reducible exact ⟨Gr.cell HX8.out k9_c10, Gr.cell HX8.out k9_c11, Gr.cell HX8.out k9_c20, Gr.cell HX8.out k9_c21, Gr.cell HX8.out k9_c30, Gr.cell HX8.out k9_c31, Gr.cell HX8.out k9_cz0, Gr.cell HX8.out k9_cz1, Gr.cell HX8.out k9_co0, Gr.cell HX8.out k9_co1, Gr.cell HX8.out k9_cs0, Gr.cell HX8.out k9_cs1, Gr.cell HX8.out k9_cm0, Gr.cell HX8.out k9_cm1⟩
      | with_reducible exact ⟨Gr.cell HX9.out k9_c10, Gr.cell HX9.out k9_c11, Gr.cell HX9.out k9_c20, Gr.cell HX9.out k9_c21, Gr.cell HX9.out k9_c30, Gr.cell HX9.out k9_c31, Gr.cell HX9.out k9_cz0, Gr.cell HX9.out k9_cz1, Gr.cell HX9.out k9_co0, Gr.cell HX9.out k9_co1, Gr.cell HX9.out k9_cs0, Gr.cell HX9.out k9_cs1, Gr.cell HX9.out k9_cm0, Gr.cell HX9.out k9_cm1⟩)
    (first
      | (go_at_call 52; refine (HS5.out x8 _ _ _ _ HV5_8.out HV8_8.out).mono ?_; rintro e w6 ⟨rfl, hg⟩; have HX9 := hid (HX8.out.trans hg); clear hg)
      | (go_at_call 69; refine (zadd_c x7 _ _ (a * c) (b * c) 2097152 HV6_7.out.az HV7_7.out.az (by decide)).mono ?_; rintro e x8 ⟨g8, rfl, hv, hg⟩; have HX8 := hid (HX7.out.trans hg); have HV8_8 := hid hv; have HV5_8 := hid (HV5_7.out.gr hg); clear hv hg)
      | (go_at_call 70; refine (zmul_c x6 _ _ b c 1048576 1048576 (KB.out.gr HX6.out) (KC.out.gr HX6.out) (by decide) (by decide)).mono ?_; rintro e x7 ⟨g7, rfl, hv, hg⟩; have HX7 := hid (HX6.out.trans hg); have HV7_7 := hid hv; have HV5_7 := hid (HV5_6.out.gr hg); have HV6_7 := hid (HV6_6.out.gr hg); clear hv hg)
      | (go_at_call 70; refine (zmul_c x5 _ _ a c 1048576 1048576 (KA.out.gr HX5.out) (KC.out.gr HX5.out) (by decide) (by decide)).mono ?_; rintro e x6 ⟨g6, rfl, hv, hg⟩; have HX6 := hid (HX5.out.trans hg); have HV6_6 := hid hv; have HV5_6 := hid (HV5_5.out.gr hg); clear hv hg)
      | (go_at_call 70; refine (zmul_c x4 _ _ (a + b) c 1048577 1048576 (KS.out.gr HX4.out).az (KC.out.gr HX4.out) (by decide) (by decide)).mono ?_; rintro e x5 ⟨g5, rfl, hv, hg⟩; have HX5 := hid (HX4.out.trans hg); have HV5_5 := hid hv; clear hv hg)
      | (go_at_call 52; refine (HS4.out x3 _ _ _ _ HV1_3.out HV3_3.out).mono ?_; rintro e x4 ⟨rfl, hg⟩; have HX4 := hid (HX3.out.trans hg); clear hg)
      | (go_at_call 70; refine (zmul_c x2 _ _ a (b * c) 1048576 2097152 (KA.out.gr HX2.out) HV2_2.out.az (by decide) (by decide)).mono ?_; rintro e x3 ⟨g3, rfl, hv, hg⟩; have HX3 := hid (HX2.out.trans hg); have HV3_3 := hid hv; have HV1_3 := hid (HV1_2.out.gr hg); clear hv hg)
      | (go_at_call 70; refine (zmul_c x1 _ _ b c 1048576 1048576 (KB.out.gr HX1.out) (KC.out.gr HX1.out) (by decide) (by decide)).mono ?_; rintro e x2 ⟨g2, rfl, hv, hg⟩; have HX2 := hid (HX1.out.trans hg); have HV2_2 := hid hv; have HV1_2 := hid (HV1_1.out.gr hg); clear hv hg)
      | (go_at_call 70; refine (zmul_c _ _ _ (a * b) c 2097152 1048576 (KM.out.gr ((Gr.refl w5).drew)).az (KC.out.gr ((Gr.refl w5).drew)) (by decide) (by decide)).mono ?_; rintro e x1 ⟨g1, rfl, hv, hg⟩; have HX1 := hid (((Gr.refl w5).drew).trans hg); have HV1_1 := hid hv; clear hv hg))
  have k10_c10 := Gr.cell HX9.out k9_c10
  have k10_c11 := Gr.cell HX9.out k9_c11
  have k10_c20 := Gr.cell HX9.out k9_c20
  have k10_c21 := Gr.cell HX9.out k9_c21
  have k10_c30 := Gr.cell HX9.out k9_c30
  have k10_c31 := Gr.cell HX9.out k9_c31
  have k10_cz0 := Gr.cell HX9.out k9_cz0
  have k10_cz1 := Gr.cell HX9.out k9_cz1
  have k10_co0 := Gr.cell HX9.out k9_co0
  have k10_co1 := Gr.cell HX9.out k9_co1
  have k10_cs0 := Gr.cell HX9.out k9_cs0
  have k10_cs1 := Gr.cell HX9.out k9_cs1
  have k10_cm0 := Gr.cell HX9.out k9_cm0
  have k10_cm1 := Gr.cell HX9.out k9_cm1
  clear k9_c10 k9_c11 k9_c20 k9_c21 k9_c30 k9_c31 k9_cz0 k9_cz1 k9_co0 k9_co1 k9_cs0 k9_cs1 k9_cm0 k9_cm1
  replace KA := hid (KA.out.gr HX9.out)
  replace KB := hid (KB.out.gr HX9.out)
  replace KC := hid (KC.out.gr HX9.out)
  replace KZ := hid (KZ.out.gr HX9.out)
  replace KO := hid (KO.out.gr HX9.out)
  replace KS := hid (KS.out.gr HX9.out)
  replace KM := hid (KM.out.gr HX9.out)
  replace HG := hid (HG.out.trans HX9.out)
  clear HX1 HX2 HX3 HX4 HX5 HX6 HX7 HX8 HX9
  go_wp2
  go_region_held3 (fun V => V.cell? ⟨W.heap.size, 0, none⟩ = some (.bool s1) ∧ V.cell? ⟨W.heap.size, 1, none⟩ = some (.slice A1 l1 c1) ∧ V.cell? ⟨W.heap.size + 1, 0, none⟩ = some (.bool s2) ∧ V.cell? ⟨W.heap.size + 1, 1, none⟩ = some (.slice A2 l2 c2) ∧ V.cell? ⟨W.heap.size + 2, 0, none⟩ = some (.bool s3) ∧ V.cell? ⟨W.heap.size + 2, 1, none⟩ = some (.slice A3 l3 c3) ∧ V.cell? ⟨w1.heap.size, 0, none⟩ = some (.bool bsz) ∧ V.cell? ⟨w1.heap.size, 1, none⟩ = some (.slice Az lz cz) ∧ V.cell? ⟨w2.heap.size, 0, none⟩ = some (.bool bso) ∧ V.cell? ⟨w2.heap.size, 1, none⟩ = some (.slice Ao lo co) ∧ V.cell? ⟨w3.heap.size, 0, none⟩ = some (.bool bss) ∧ V.cell? ⟨w3.heap.size, 1, none⟩ = some (.slice As ls cs) ∧ V.cell? ⟨w4.heap.size, 0, none⟩ = some (.bool bsm) ∧ V.cell? ⟨w4.heap.size, 1, none⟩ = some (.slice Am lm cm))
    (first
      | exact ⟨k10_c10, k10_c11, k10_c20, k10_c21, k10_c30, k10_c31, k10_cz0, k10_cz1, k10_co0, k10_co1, k10_cs0, k10_cs1, k10_cm0, k10_cm1⟩
      | with_reducible exact ⟨Gr.cell HX1.out k10_c10, Gr.cell HX1.out k10_c11, Gr.cell HX1.out k10_c20, Gr.cell HX1.out k10_c21, Gr.cell HX1.out k10_c30, Gr.cell HX1.out k10_c31, Gr.cell HX1.out k10_cz0, Gr.cell HX1.out k10_cz1, Gr.cell HX1.out k10_co0, Gr.cell HX1.out k10_co1, Gr.cell HX1.out k10_cs0, Gr.cell HX1.out k10_cs1, Gr.cell HX1.out k10_cm0, Gr.cell HX1.out k10_cm1⟩
      | with_reducible exact ⟨Gr.cell HX2.out k10_c10, Gr.cell HX2.out k10_c11, Gr.cell HX2.out k10_c20, Gr.cell HX2.out k10_c21, Gr.cell HX2.out k10_c30, Gr.cell HX2.out k10_c31, Gr.cell HX2.out k10_cz0, Gr.cell HX2.out k10_cz1, Gr.cell HX2.out k10_co0, Gr.cell HX2.out k10_co1, Gr.cell HX2.out k10_cs0, Gr.cell HX2.out k10_cs1, Gr.cell HX2.out k10_cm0, Gr.cell HX2.out k10_cm1⟩
      | with_reducible exact ⟨Gr.cell HX3.out k10_c10, Gr.cell HX3.out k10_c11, Gr.cell HX3.out k10_c20, Gr.cell HX3.out k10_c21, Gr.cell HX3.out k10_c30, Gr.cell HX3.out k10_c31, Gr.cell HX3.out k10_cz0, Gr.cell HX3.out k10_cz1, Gr.cell HX3.out k10_co0, Gr.cell HX3.out k10_co1, Gr.cell HX3.out k10_cs0, Gr.cell HX3.out k10_cs1, Gr.cell HX3.out k10_cm0, Gr.cell HX3.out k10_cm1⟩
      | with_reducible exact ⟨Gr.cell HX4.out k10_c10, Gr.cell HX4.out k10_c11, Gr.cell HX4.out k10_c20, Gr.cell HX4.out k10_c21, Gr.cell HX4.out k10_c30, Gr.cell HX4.out k10_c31, Gr.cell HX4.out k10_cz0, Gr.cell HX4.out k10_cz1, Gr.cell HX4.out k10_co0, Gr.cell HX4.out k10_co1, Gr.cell HX4.out k10_cs0, Gr.cell HX4.out k10_cs1, Gr.cell HX4.out k10_cm0, Gr.cell HX4.out k10_cm1⟩
      | with_reducible exact ⟨Gr.cell HX5.out k10_c10, Gr.cell HX5.out k10_c11, Gr.cell HX5.out k10_c20, Gr.cell HX5.out k10_c21, Gr.cell HX5.out k10_c30, Gr.cell HX5.out k10_c31, Gr.cell HX5.out k10_cz0, Gr.cell HX5.out k10_cz1, Gr.cell HX5.out k10_co0, Gr.cell HX5.out k10_co1, Gr.cell HX5.out k10_cs0, Gr.cell HX5.out k10_cs1, Gr.cell HX5.out k10_cm0, Gr.cell HX5.out k10_cm1⟩
      | with_reducible exact ⟨Gr.cell HX6.out k10_c10, Gr.cell HX6.out k10_c11, Gr.cell HX6.out k10_c20, Gr.cell HX6.out k10_c21, Gr.cell HX6.out k10_c30, Gr.cell HX6.out k10_c31, Gr.cell HX6.out k10_cz0, Gr.cell HX6.out k10_cz1, Gr.cell HX6.out k10_co0, Gr.cell HX6.out k10_co1, Gr.cell HX6.out k10_cs0, Gr.cell HX6.out k10_cs1, Gr.cell HX6.out k10_cm0, Gr.cell HX6.out k10_cm1⟩
      | with_reducible exact ⟨Gr.cell HX7.out k10_c10, Gr.cell HX7.out k10_c11, Gr.cell HX7.out k10_c20, Gr.cell HX7.out k10_c21, Gr.cell HX7.out k10_c30, Gr.cell HX7.out k10_c31, Gr.cell HX7.out k10_cz0, Gr.cell HX7.out k10_cz1, Gr.cell HX7.out k10_co0, Gr.cell HX7.out k10_co1, Gr.cell HX7.out k10_cs0, Gr.cell HX7.out k10_cs1, Gr.cell HX7.out k10_cm0, Gr.cell HX7.out k10_cm1⟩
      | with_reducible exact ⟨Gr.cell HX8.out k10_c10, Gr.cell HX8.out k10_c11, Gr.cell HX8.out k10_c20, Gr.cell HX8.out k10_c21, Gr.cell HX8.out k10_c30, Gr.cell HX8.out k10_c31, Gr.cell HX8.out k10_cz0, Gr.cell HX8.out k10_cz1, Gr.cell HX8.out k10_co0, Gr.cell HX8.out k10_co1, Gr.cell HX8.out k10_cs0, Gr.cell HX8.out k10_cs1, Gr.cell HX8.out k10_cm0, Gr.cell HX8.out k10_cm1⟩)
    (first
      | (go_at_call 52; refine (HS8.out x7 _ _ _ _ HV7_7.out (KZ.out.gr HX7.out)).mono ?_; rintro e w7 ⟨rfl, hg⟩; have HX8 := hid (HX7.out.trans hg); clear hg)
      | (go_at_call 70; refine (zmul_c x6 _ _ a 0 1048576 2 (KA.out.gr HX6.out) (KZ.out.gr HX6.out).az (by decide) (by decide)).mono ?_; rintro e x7 ⟨g7, rfl, hv, hg⟩; have HX7 := hid (HX6.out.trans hg); have HV7_7 := hid hv; clear hv hg)
      | (go_at_call 52; refine (HS7.out x5 _ _ _ _ HV4_5.out HV5_5.out).mono ?_; rintro e x6 ⟨rfl, hg⟩; have HX6 := hid (HX5.out.trans hg); clear hg)
      | (go_at_call 58; refine (znorm_c x4 _ a 1048576 (KA.out.gr HX4.out) (by decide)).mono ?_; rintro e x5 ⟨g5, rfl, hv, hg⟩; have HX5 := hid (HX4.out.trans hg); have HV5_5 := hid hv; have HV4_5 := hid (HV4_4.out.gr hg); clear hv hg)
      | (go_at_call 70; refine (zmul_c x3 _ _ a 1 1048576 2 (KA.out.gr HX3.out) (KO.out.gr HX3.out).az (by decide) (by decide)).mono ?_; rintro e x4 ⟨g4, rfl, hv, hg⟩; have HX4 := hid (HX3.out.trans hg); have HV4_4 := hid hv; clear hv hg)
      | (go_at_call 52; refine (HS6.out x2 _ _ _ _ HV1_2.out HV2_2.out).mono ?_; rintro e x3 ⟨rfl, hg⟩; have HX3 := hid (HX2.out.trans hg); clear hg)
      | (go_at_call 58; refine (znorm_c x1 _ a 1048576 (KA.out.gr HX1.out) (by decide)).mono ?_; rintro e x2 ⟨g2, rfl, hv, hg⟩; have HX2 := hid (HX1.out.trans hg); have HV2_2 := hid hv; have HV1_2 := hid (HV1_1.out.gr hg); clear hv hg)
      | (go_at_call 69; refine (zadd_c _ _ _ a 0 1048576 (KA.out.gr ((Gr.refl w6).drew)) ((KZ.out.gr ((Gr.refl w6).drew)).az.le (by decide)) (by decide)).mono ?_; rintro e x1 ⟨g1, rfl, hv, hg⟩; have HX1 := hid (((Gr.refl w6).drew).trans hg); have HV1_1 := hid hv; clear hv hg))
  have k11_c10 := Gr.cell HX8.out k10_c10
  have k11_c11 := Gr.cell HX8.out k10_c11
  have k11_c20 := Gr.cell HX8.out k10_c20
  have k11_c21 := Gr.cell HX8.out k10_c21
  have k11_c30 := Gr.cell HX8.out k10_c30
  have k11_c31 := Gr.cell HX8.out k10_c31
  have k11_cz0 := Gr.cell HX8.out k10_cz0
  have k11_cz1 := Gr.cell HX8.out k10_cz1
  have k11_co0 := Gr.cell HX8.out k10_co0
  have k11_co1 := Gr.cell HX8.out k10_co1
  have k11_cs0 := Gr.cell HX8.out k10_cs0
  have k11_cs1 := Gr.cell HX8.out k10_cs1
  have k11_cm0 := Gr.cell HX8.out k10_cm0
  have k11_cm1 := Gr.cell HX8.out k10_cm1
  clear k10_c10 k10_c11 k10_c20 k10_c21 k10_c30 k10_c31 k10_cz0 k10_cz1 k10_co0 k10_co1 k10_cs0 k10_cs1 k10_cm0 k10_cm1
  replace KA := hid (KA.out.gr HX8.out)
  replace KB := hid (KB.out.gr HX8.out)
  replace KC := hid (KC.out.gr HX8.out)
  replace KZ := hid (KZ.out.gr HX8.out)
  replace KO := hid (KO.out.gr HX8.out)
  replace KS := hid (KS.out.gr HX8.out)
  replace KM := hid (KM.out.gr HX8.out)
  replace HG := hid (HG.out.trans HX8.out)
  clear HX1 HX2 HX3 HX4 HX5 HX6 HX7 HX8
  go_wp2
  go_region_held3 (fun V => V.cell? ⟨W.heap.size, 0, none⟩ = some (.bool s1) ∧ V.cell? ⟨W.heap.size, 1, none⟩ = some (.slice A1 l1 c1) ∧ V.cell? ⟨W.heap.size + 1, 0, none⟩ = some (.bool s2) ∧ V.cell? ⟨W.heap.size + 1, 1, none⟩ = some (.slice A2 l2 c2) ∧ V.cell? ⟨W.heap.size + 2, 0, none⟩ = some (.bool s3) ∧ V.cell? ⟨W.heap.size + 2, 1, none⟩ = some (.slice A3 l3 c3) ∧ V.cell? ⟨w1.heap.size, 0, none⟩ = some (.bool bsz) ∧ V.cell? ⟨w1.heap.size, 1, none⟩ = some (.slice Az lz cz) ∧ V.cell? ⟨w2.heap.size, 0, none⟩ = some (.bool bso) ∧ V.cell? ⟨w2.heap.size, 1, none⟩ = some (.slice Ao lo co) ∧ V.cell? ⟨w3.heap.size, 0, none⟩ = some (.bool bss) ∧ V.cell? ⟨w3.heap.size, 1, none⟩ = some (.slice As ls cs) ∧ V.cell? ⟨w4.heap.size, 0, none⟩ = some (.bool bsm) ∧ V.cell? ⟨w4.heap.size, 1, none⟩ = some (.slice Am lm cm))
    (first
      | exact ⟨k11_c10, k11_c11, k11_c20, k11_c21, k11_c30, k11_c31, k11_cz0, k11_cz1, k11_co0, k11_co1, k11_cs0, k11_cs1, k11_cm0, k11_cm1⟩
      | with_reducible exact ⟨Gr.cell HX1.out k11_c10, Gr.cell HX1.out k11_c11, Gr.cell HX1.out k11_c20, Gr.cell HX1.out k11_c21, Gr.cell HX1.out k11_c30, Gr.cell HX1.out k11_c31, Gr.cell HX1.out k11_cz0, Gr.cell HX1.out k11_cz1, Gr.cell HX1.out k11_co0, Gr.cell HX1.out k11_co1, Gr.cell HX1.out k11_cs0, Gr.cell HX1.out k11_cs1, Gr.cell HX1.out k11_cm0, Gr.cell HX1.out k11_cm1⟩
      | with_reducible exact ⟨Gr.cell HX2.out k11_c10, Gr.cell HX2.out k11_c11, Gr.cell HX2.out k11_c20, Gr.cell HX2.out k11_c21, Gr.cell HX2.out k11_c30, Gr.cell HX2.out k11_c31, Gr.cell HX2.out k11_cz0, Gr.cell HX2.out k11_cz1, Gr.cell HX2.out k11_co0, Gr.cell HX2.out k11_co1, Gr.cell HX2.out k11_cs0, Gr.cell HX2.out k11_cs1, Gr.cell HX2.out k11_cm0, Gr.cell HX2.out k11_cm1⟩
      | with_reducible exact ⟨Gr.cell HX3.out k11_c10, Gr.cell HX3.out k11_c11, Gr.cell HX3.out k11_c20, Gr.cell HX3.out k11_c21, Gr.cell HX3.out k11_c30, Gr.cell HX3.out k11_c31, Gr.cell HX3.out k11_cz0, Gr.cell HX3.out k11_cz1, Gr.cell HX3.out k11_co0, Gr.cell HX3.out k11_co1, Gr.cell HX3.out k11_cs0, Gr.cell HX3.out k11_cs1, Gr.cell HX3.out k11_cm0, Gr.cell HX3.out k11_cm1⟩
      | with_reducible exact ⟨Gr.cell HX4.out k11_c10, Gr.cell HX4.out k11_c11, Gr.cell HX4.out k11_c20, Gr.cell HX4.out k11_c21, Gr.cell HX4.out k11_c30, Gr.cell HX4.out k11_c31, Gr.cell HX4.out k11_cz0, Gr.cell HX4.out k11_cz1, Gr.cell HX4.out k11_co0, Gr.cell HX4.out k11_co1, Gr.cell HX4.out k11_cs0, Gr.cell HX4.out k11_cs1, Gr.cell HX4.out k11_cm0, Gr.cell HX4.out k11_cm1⟩
      | with_reducible exact ⟨Gr.cell HX5.out k11_c10, Gr.cell HX5.out k11_c11, Gr.cell HX5.out k11_c20, Gr.cell HX5.out k11_c21, Gr.cell HX5.out k11_c30, Gr.cell HX5.out k11_c31, Gr.cell HX5.out k11_cz0, Gr.cell HX5.out k11_cz1, Gr.cell HX5.out k11_co0, Gr.cell HX5.out k11_co1, Gr.cell HX5.out k11_cs0, Gr.cell HX5.out k11_cs1, Gr.cell HX5.out k11_cm0, Gr.cell HX5.out k11_cm1⟩
      | with_reducible exact ⟨Gr.cell HX6.out k11_c10, Gr.cell HX6.out k11_c11, Gr.cell HX6.out k11_c20, Gr.cell HX6.out k11_c21, Gr.cell HX6.out k11_c30, Gr.cell HX6.out k11_c31, Gr.cell HX6.out k11_cz0, Gr.cell HX6.out k11_cz1, Gr.cell HX6.out k11_co0, Gr.cell HX6.out k11_co1, Gr.cell HX6.out k11_cs0, Gr.cell HX6.out k11_cs1, Gr.cell HX6.out k11_cm0, Gr.cell HX6.out k11_cm1⟩
      | with_reducible exact ⟨Gr.cell HX7.out k11_c10, Gr.cell HX7.out k11_c11, Gr.cell HX7.out k11_c20, Gr.cell HX7.out k11_c21, Gr.cell HX7.out k11_c30, Gr.cell HX7.out k11_c31, Gr.cell HX7.out k11_cz0, Gr.cell HX7.out k11_cz1, Gr.cell HX7.out k11_co0, Gr.cell HX7.out k11_co1, Gr.cell HX7.out k11_cs0, Gr.cell HX7.out k11_cs1, Gr.cell HX7.out k11_cm0, Gr.cell HX7.out k11_cm1⟩
      | with_reducible exact ⟨Gr.cell HX8.out k11_c10, Gr.cell HX8.out k11_c11, Gr.cell HX8.out k11_c20, Gr.cell HX8.out k11_c21, Gr.cell HX8.out k11_c30, Gr.cell HX8.out k11_c31, Gr.cell HX8.out k11_cz0, Gr.cell HX8.out k11_cz1, Gr.cell HX8.out k11_co0, Gr.cell HX8.out k11_co1, Gr.cell HX8.out k11_cs0, Gr.cell HX8.out k11_cs1, Gr.cell HX8.out k11_cm0, Gr.cell HX8.out k11_cm1⟩
      | with_reducible exact ⟨Gr.cell HX9.out k11_c10, Gr.cell HX9.out k11_c11, Gr.cell HX9.out k11_c20, Gr.cell HX9.out k11_c21, Gr.cell HX9.out k11_c30, Gr.cell HX9.out k11_c31, Gr.cell HX9.out k11_cz0, Gr.cell HX9.out k11_cz1, Gr.cell HX9.out k11_co0, Gr.cell HX9.out k11_co1, Gr.cell HX9.out k11_cs0, Gr.cell HX9.out k11_cs1, Gr.cell HX9.out k11_cm0, Gr.cell HX9.out k11_cm1⟩
      | with_reducible exact ⟨Gr.cell HX10.out k11_c10, Gr.cell HX10.out k11_c11, Gr.cell HX10.out k11_c20, Gr.cell HX10.out k11_c21, Gr.cell HX10.out k11_c30, Gr.cell HX10.out k11_c31, Gr.cell HX10.out k11_cz0, Gr.cell HX10.out k11_cz1, Gr.cell HX10.out k11_co0, Gr.cell HX10.out k11_co1, Gr.cell HX10.out k11_cs0, Gr.cell HX10.out k11_cs1, Gr.cell HX10.out k11_cm0, Gr.cell HX10.out k11_cm1⟩
      | with_reducible exact ⟨Gr.cell HX11.out k11_c10, Gr.cell HX11.out k11_c11, Gr.cell HX11.out k11_c20, Gr.cell HX11.out k11_c21, Gr.cell HX11.out k11_c30, Gr.cell HX11.out k11_c31, Gr.cell HX11.out k11_cz0, Gr.cell HX11.out k11_cz1, Gr.cell HX11.out k11_co0, Gr.cell HX11.out k11_co1, Gr.cell HX11.out k11_cs0, Gr.cell HX11.out k11_cs1, Gr.cell HX11.out k11_cm0, Gr.cell HX11.out k11_cm1⟩)
    (first
      | (go_at_call 52; refine (HS11.out x10 _ _ _ _ HV9_10.out HV10_10.out).mono ?_; rintro e w8 ⟨rfl, hg⟩; have HX11 := hid (HX10.out.trans hg); clear hg)
      | (go_at_call 58; refine (znorm_c x9 _ a 1048576 (KA.out.gr HX9.out) (by decide)).mono ?_; rintro e x10 ⟨g10, rfl, hv, hg⟩; have HX10 := hid (HX9.out.trans hg); have HV10_10 := hid hv; have HV9_10 := hid (HV9_9.out.gr hg); clear hv hg)
      | (go_at_call 66; refine (zneg_c x8 _ (-a) 1048576 HV8_8.out.az (by decide)).mono ?_; rintro e x9 ⟨g9, rfl, hv, hg⟩; have HX9 := hid (HX8.out.trans hg); have HV9_9 := hid hv; clear hv hg)
      | (go_at_call 66; refine (zneg_c x7 _ a 1048576 (KA.out.gr HX7.out) (by decide)).mono ?_; rintro e x8 ⟨g8, rfl, hv, hg⟩; have HX8 := hid (HX7.out.trans hg); have HV8_8 := hid hv; clear hv hg)
      | (go_at_call 52; refine (HS10.out x6 _ _ _ _ HV4_6.out HV6_6.out).mono ?_; rintro e x7 ⟨rfl, hg⟩; have HX7 := hid (HX6.out.trans hg); clear hg)
      | (go_at_call 69; refine (zadd_c x5 _ _ a (-b) 1048576 (KA.out.gr HX5.out) HV5_5.out.az (by decide)).mono ?_; rintro e x6 ⟨g6, rfl, hv, hg⟩; have HX6 := hid (HX5.out.trans hg); have HV6_6 := hid hv; have HV4_6 := hid (HV4_5.out.gr hg); clear hv hg)
      | (go_at_call 66; refine (zneg_c x4 _ b 1048576 (KB.out.gr HX4.out) (by decide)).mono ?_; rintro e x5 ⟨g5, rfl, hv, hg⟩; have HX5 := hid (HX4.out.trans hg); have HV5_5 := hid hv; have HV4_5 := hid (HV4_4.out.gr hg); clear hv hg)
      | (go_at_call 74; refine (zsub_c x3 _ _ a b 1048576 (KA.out.gr HX3.out) (KB.out.gr HX3.out) (by decide)).mono ?_; rintro e x4 ⟨g4, rfl, hv, hg⟩; have HX4 := hid (HX3.out.trans hg); have HV4_4 := hid hv; clear hv hg)
      | (go_at_call 52; refine (HS9.out x2 _ _ _ _ HV2_2.out (KZ.out.gr HX2.out)).mono ?_; rintro e x3 ⟨rfl, hg⟩; have HX3 := hid (HX2.out.trans hg); clear hg)
      | (go_at_call 69; refine (zadd_c x1 _ _ a (-a) 1048576 (KA.out.gr HX1.out) HV1_1.out.az (by decide)).mono ?_; rintro e x2 ⟨g2, rfl, hv, hg⟩; have HX2 := hid (HX1.out.trans hg); have HV2_2 := hid hv; clear hv hg)
      | (go_at_call 66; refine (zneg_c _ _ a 1048576 (KA.out.gr ((Gr.refl w7).drew)) (by decide)).mono ?_; rintro e x1 ⟨g1, rfl, hv, hg⟩; have HX1 := hid (((Gr.refl w7).drew).trans hg); have HV1_1 := hid hv; clear hv hg))
  have k12_c10 := Gr.cell HX11.out k11_c10
  have k12_c11 := Gr.cell HX11.out k11_c11
  have k12_c20 := Gr.cell HX11.out k11_c20
  have k12_c21 := Gr.cell HX11.out k11_c21
  have k12_c30 := Gr.cell HX11.out k11_c30
  have k12_c31 := Gr.cell HX11.out k11_c31
  have k12_cz0 := Gr.cell HX11.out k11_cz0
  have k12_cz1 := Gr.cell HX11.out k11_cz1
  have k12_co0 := Gr.cell HX11.out k11_co0
  have k12_co1 := Gr.cell HX11.out k11_co1
  have k12_cs0 := Gr.cell HX11.out k11_cs0
  have k12_cs1 := Gr.cell HX11.out k11_cs1
  have k12_cm0 := Gr.cell HX11.out k11_cm0
  have k12_cm1 := Gr.cell HX11.out k11_cm1
  clear k11_c10 k11_c11 k11_c20 k11_c21 k11_c30 k11_c31 k11_cz0 k11_cz1 k11_co0 k11_co1 k11_cs0 k11_cs1 k11_cm0 k11_cm1
  replace KA := hid (KA.out.gr HX11.out)
  replace KB := hid (KB.out.gr HX11.out)
  replace KC := hid (KC.out.gr HX11.out)
  replace KZ := hid (KZ.out.gr HX11.out)
  replace KO := hid (KO.out.gr HX11.out)
  replace KS := hid (KS.out.gr HX11.out)
  replace KM := hid (KM.out.gr HX11.out)
  replace HG := hid (HG.out.trans HX11.out)
  clear HX1 HX2 HX3 HX4 HX5 HX6 HX7 HX8 HX9 HX10 HX11
  go_wp2
  by_cases ha0 : sa = 0
  · subst ha0
    have hm0 : sm = 0 := by rw [HMM.out, Int.zero_mul]
    subst hm0
    go_wp2
    refine wp_region_vals [.agg #[.bool bsm, .slice Am lm cm], .int .i64 0, .bool true, .agg #[.bool s1, .slice A1 l1 c1], .int .i64 0, .bool true, .bool true, undef, undef, undef, .bool true, .bool true, .bool true, .agg #[.bool bsm, .slice Am lm cm], .int .i64 0, .agg #[.bool s1, .slice A1 l1 c1], .int .i64 0, .agg #[.bool s2, .slice A2 l2 c2], .int .i64 sb, .int .i64 0, .bool true, .bool true, .bool true, .bool true, .bool true, .bool true] (by kernel_rfl) (by kernel_rfl) (by kernel_rfl) (by kernel_rfl) ?_ ?_
    · refine StepsV.cons (StepV.mk fun vs V K hV hd hK => ?_) ?_
      · have v_c10 := Gr.cell hV k12_c10
        have v_c11 := Gr.cell hV k12_c11
        have v_c20 := Gr.cell hV k12_c20
        have v_c21 := Gr.cell hV k12_c21
        have v_c30 := Gr.cell hV k12_c30
        have v_c31 := Gr.cell hV k12_c31
        have v_cz0 := Gr.cell hV k12_cz0
        have v_cz1 := Gr.cell hV k12_cz1
        have v_co0 := Gr.cell hV k12_co0
        have v_co1 := Gr.cell hV k12_co1
        have v_cs0 := Gr.cell hV k12_cs0
        have v_cs1 := Gr.cell hV k12_cs1
        have v_cm0 := Gr.cell hV k12_cm0
        have v_cm1 := Gr.cell hV k12_cm1
        simp only [puts, Act.put, List.setIfInBounds_toArray, List.set_cons_zero, List.set_cons_succ, List.getD_cons_zero, List.getD_cons_succ] at hK ⊢
        have hK2 := hid hK
        clear hK
        refine ⟨rfl, ?_⟩
        go_simp
        exact hK2.out _ (Gr.refl _)
      refine StepsV.cons (StepV.mk fun vs V K hV hd hK => ?_) ?_
      · have g0 := hd { on := 0, ground := .data } (by simp) rfl
        try simp only [List.getD_cons_zero, List.getD_cons_succ] at g0
        have v_c10 := Gr.cell hV k12_c10
        have v_c11 := Gr.cell hV k12_c11
        have v_c20 := Gr.cell hV k12_c20
        have v_c21 := Gr.cell hV k12_c21
        have v_c30 := Gr.cell hV k12_c30
        have v_c31 := Gr.cell hV k12_c31
        have v_cz0 := Gr.cell hV k12_cz0
        have v_cz1 := Gr.cell hV k12_cz1
        have v_co0 := Gr.cell hV k12_co0
        have v_co1 := Gr.cell hV k12_co1
        have v_cs0 := Gr.cell hV k12_cs0
        have v_cs1 := Gr.cell hV k12_cs1
        have v_cm0 := Gr.cell hV k12_cm0
        have v_cm1 := Gr.cell hV k12_cm1
        simp only [puts, Act.put, List.setIfInBounds_toArray, List.set_cons_zero, List.set_cons_succ, List.getD_cons_zero, List.getD_cons_succ, g0] at hK ⊢
        have hK2 := hid hK
        clear hK
        refine ⟨rfl, ?_⟩
        go_simp
        refine (HGM.out V _ (KM.out.gr hV).az).mono ?_
        rintro e w2 ⟨rfl, hg2⟩
        exact hK2.out _ hg2
      refine StepsV.cons (StepV.mk fun vs V K hV hd hK => ?_) ?_
      · have g1 := hd { on := 1, ground := .data } (by simp) rfl
        try simp only [List.getD_cons_zero, List.getD_cons_succ] at g1
        have v_c10 := Gr.cell hV k12_c10
        have v_c11 := Gr.cell hV k12_c11
        have v_c20 := Gr.cell hV k12_c20
        have v_c21 := Gr.cell hV k12_c21
        have v_c30 := Gr.cell hV k12_c30
        have v_c31 := Gr.cell hV k12_c31
        have v_cz0 := Gr.cell hV k12_cz0
        have v_cz1 := Gr.cell hV k12_cz1
        have v_co0 := Gr.cell hV k12_co0
        have v_co1 := Gr.cell hV k12_co1
        have v_cs0 := Gr.cell hV k12_cs0
        have v_cs1 := Gr.cell hV k12_cs1
        have v_cm0 := Gr.cell hV k12_cm0
        have v_cm1 := Gr.cell hV k12_cm1
        simp only [puts, Act.put, List.setIfInBounds_toArray, List.set_cons_zero, List.set_cons_succ, List.getD_cons_zero, List.getD_cons_succ, g1] at hK ⊢
        have hK2 := hid hK
        clear hK
        refine ⟨rfl, ?_⟩
        go_simp
        exact hK2.out _ (Gr.refl _)
      refine StepsV.cons (StepV.mk fun vs V K hV hd hK => ?_) ?_
      · have v_c10 := Gr.cell hV k12_c10
        have v_c11 := Gr.cell hV k12_c11
        have v_c20 := Gr.cell hV k12_c20
        have v_c21 := Gr.cell hV k12_c21
        have v_c30 := Gr.cell hV k12_c30
        have v_c31 := Gr.cell hV k12_c31
        have v_cz0 := Gr.cell hV k12_cz0
        have v_cz1 := Gr.cell hV k12_cz1
        have v_co0 := Gr.cell hV k12_co0
        have v_co1 := Gr.cell hV k12_co1
        have v_cs0 := Gr.cell hV k12_cs0
        have v_cs1 := Gr.cell hV k12_cs1
        have v_cm0 := Gr.cell hV k12_cm0
        have v_cm1 := Gr.cell hV k12_cm1
        simp only [puts, Act.put, List.setIfInBounds_toArray, List.set_cons_zero, List.set_cons_succ, List.getD_cons_zero, List.getD_cons_succ] at hK ⊢
        have hK2 := hid hK
        clear hK
        refine ⟨rfl, ?_⟩
        go_simp
        exact hK2.out _ (Gr.refl _)
      refine StepsV.cons (StepV.mk fun vs V K hV hd hK => ?_) ?_
      · have g3 := hd { on := 3, ground := .data } (by simp) rfl
        try simp only [List.getD_cons_zero, List.getD_cons_succ] at g3
        have v_c10 := Gr.cell hV k12_c10
        have v_c11 := Gr.cell hV k12_c11
        have v_c20 := Gr.cell hV k12_c20
        have v_c21 := Gr.cell hV k12_c21
        have v_c30 := Gr.cell hV k12_c30
        have v_c31 := Gr.cell hV k12_c31
        have v_cz0 := Gr.cell hV k12_cz0
        have v_cz1 := Gr.cell hV k12_cz1
        have v_co0 := Gr.cell hV k12_co0
        have v_co1 := Gr.cell hV k12_co1
        have v_cs0 := Gr.cell hV k12_cs0
        have v_cs1 := Gr.cell hV k12_cs1
        have v_cm0 := Gr.cell hV k12_cm0
        have v_cm1 := Gr.cell hV k12_cm1
        simp only [puts, Act.put, List.setIfInBounds_toArray, List.set_cons_zero, List.set_cons_succ, List.getD_cons_zero, List.getD_cons_succ, g3] at hK ⊢
        have hK2 := hid hK
        clear hK
        refine ⟨rfl, ?_⟩
        go_simp
        refine (HGA.out V _ (KA.out.gr hV)).mono ?_
        rintro e w2 ⟨rfl, hg2⟩
        exact hK2.out _ hg2
      refine StepsV.cons (StepV.mk fun vs V K hV hd hK => ?_) ?_
      · have g4 := hd { on := 4, ground := .data } (by simp) rfl
        try simp only [List.getD_cons_zero, List.getD_cons_succ] at g4
        have v_c10 := Gr.cell hV k12_c10
        have v_c11 := Gr.cell hV k12_c11
        have v_c20 := Gr.cell hV k12_c20
        have v_c21 := Gr.cell hV k12_c21
        have v_c30 := Gr.cell hV k12_c30
        have v_c31 := Gr.cell hV k12_c31
        have v_cz0 := Gr.cell hV k12_cz0
        have v_cz1 := Gr.cell hV k12_cz1
        have v_co0 := Gr.cell hV k12_co0
        have v_co1 := Gr.cell hV k12_co1
        have v_cs0 := Gr.cell hV k12_cs0
        have v_cs1 := Gr.cell hV k12_cs1
        have v_cm0 := Gr.cell hV k12_cm0
        have v_cm1 := Gr.cell hV k12_cm1
        simp only [puts, Act.put, List.setIfInBounds_toArray, List.set_cons_zero, List.set_cons_succ, List.getD_cons_zero, List.getD_cons_succ, g4] at hK ⊢
        have hK2 := hid hK
        clear hK
        refine ⟨rfl, ?_⟩
        go_simp
        exact hK2.out _ (Gr.refl _)
      refine StepsV.cons (StepV.mk fun vs V K hV hd hK => ?_) ?_
      · have g5 := hd { on := 5, ground := .data } (by simp) rfl
        try simp only [List.getD_cons_zero, List.getD_cons_succ] at g5
        have v_c10 := Gr.cell hV k12_c10
        have v_c11 := Gr.cell hV k12_c11
        have v_c20 := Gr.cell hV k12_c20
        have v_c21 := Gr.cell hV k12_c21
        have v_c30 := Gr.cell hV k12_c30
        have v_c31 := Gr.cell hV k12_c31
        have v_cz0 := Gr.cell hV k12_cz0
        have v_cz1 := Gr.cell hV k12_cz1
        have v_co0 := Gr.cell hV k12_co0
        have v_co1 := Gr.cell hV k12_co1
        have v_cs0 := Gr.cell hV k12_cs0
        have v_cs1 := Gr.cell hV k12_cs1
        have v_cm0 := Gr.cell hV k12_cm0
        have v_cm1 := Gr.cell hV k12_cm1
        simp only [puts, Act.put, List.setIfInBounds_toArray, List.set_cons_zero, List.set_cons_succ, List.getD_cons_zero, List.getD_cons_succ, g5] at hK ⊢
        have hK2 := hid hK
        clear hK
        refine ⟨rfl, ?_⟩
        go_simp
        exact hK2.out _ (Gr.refl _)
      refine StepsV.cons (StepV.skip (fun vs hd => ?_) rfl) ?_
      · have g6 := hd { on := 6, ground := .guard } (by simp) rfl
        try simp only [List.getD_cons_zero, List.getD_cons_succ] at g6
        simp only [puts, Act.put, List.setIfInBounds_toArray, List.set_cons_zero, List.set_cons_succ, List.getD_cons_zero, List.getD_cons_succ, g6]
        rfl
      refine StepsV.cons (StepV.skip (fun vs hd => ?_) rfl) ?_
      · have g6 := hd { on := 6, ground := .guard } (by simp) rfl
        try simp only [List.getD_cons_zero, List.getD_cons_succ] at g6
        simp only [puts, Act.put, List.setIfInBounds_toArray, List.set_cons_zero, List.set_cons_succ, List.getD_cons_zero, List.getD_cons_succ, g6]
        rfl
      refine StepsV.cons (StepV.skip (fun vs hd => ?_) rfl) ?_
      · have g6 := hd { on := 6, ground := .guard } (by simp) rfl
        try simp only [List.getD_cons_zero, List.getD_cons_succ] at g6
        simp only [puts, Act.put, List.setIfInBounds_toArray, List.set_cons_zero, List.set_cons_succ, List.getD_cons_zero, List.getD_cons_succ, g6]
        rfl
      refine StepsV.cons (StepV.mk fun vs V K hV hd hK => ?_) ?_
      · have g6 := hd { on := 6, ground := .data } (by simp) rfl
        try simp only [List.getD_cons_zero, List.getD_cons_succ] at g6
        have g9 := hd { on := 9, ground := .data } (by simp) rfl
        try simp only [List.getD_cons_zero, List.getD_cons_succ] at g9
        have v_c10 := Gr.cell hV k12_c10
        have v_c11 := Gr.cell hV k12_c11
        have v_c20 := Gr.cell hV k12_c20
        have v_c21 := Gr.cell hV k12_c21
        have v_c30 := Gr.cell hV k12_c30
        have v_c31 := Gr.cell hV k12_c31
        have v_cz0 := Gr.cell hV k12_cz0
        have v_cz1 := Gr.cell hV k12_cz1
        have v_co0 := Gr.cell hV k12_co0
        have v_co1 := Gr.cell hV k12_co1
        have v_cs0 := Gr.cell hV k12_cs0
        have v_cs1 := Gr.cell hV k12_cs1
        have v_cm0 := Gr.cell hV k12_cm0
        have v_cm1 := Gr.cell hV k12_cm1
        simp only [puts, Act.put, List.setIfInBounds_toArray, List.set_cons_zero, List.set_cons_succ, List.getD_cons_zero, List.getD_cons_succ, g6, g9] at hK ⊢
        have hK2 := hid hK
        clear hK
        refine ⟨rfl, ?_⟩
        go_simp
        exact hK2.out _ (Gr.refl _)
      refine StepsV.cons (StepV.mk fun vs V K hV hd hK => ?_) ?_
      · have g2 := hd { on := 2, ground := .data } (by simp) rfl
        try simp only [List.getD_cons_zero, List.getD_cons_succ] at g2
        have g10 := hd { on := 10, ground := .data } (by simp) rfl
        try simp only [List.getD_cons_zero, List.getD_cons_succ] at g10
        have v_c10 := Gr.cell hV k12_c10
        have v_c11 := Gr.cell hV k12_c11
        have v_c20 := Gr.cell hV k12_c20
        have v_c21 := Gr.cell hV k12_c21
        have v_c30 := Gr.cell hV k12_c30
        have v_c31 := Gr.cell hV k12_c31
        have v_cz0 := Gr.cell hV k12_cz0
        have v_cz1 := Gr.cell hV k12_cz1
        have v_co0 := Gr.cell hV k12_co0
        have v_co1 := Gr.cell hV k12_co1
        have v_cs0 := Gr.cell hV k12_cs0
        have v_cs1 := Gr.cell hV k12_cs1
        have v_cm0 := Gr.cell hV k12_cm0
        have v_cm1 := Gr.cell hV k12_cm1
        simp only [puts, Act.put, List.setIfInBounds_toArray, List.set_cons_zero, List.set_cons_succ, List.getD_cons_zero, List.getD_cons_succ, g2, g10] at hK ⊢
        have hK2 := hid hK
        clear hK
        refine ⟨rfl, ?_⟩
        go_simp
        exact hK2.out _ (Gr.refl _)
      refine StepsV.cons (StepV.mk fun vs V K hV hd hK => ?_) ?_
      · have g11 := hd { on := 11, ground := .data } (by simp) rfl
        try simp only [List.getD_cons_zero, List.getD_cons_succ] at g11
        have v_c10 := Gr.cell hV k12_c10
        have v_c11 := Gr.cell hV k12_c11
        have v_c20 := Gr.cell hV k12_c20
        have v_c21 := Gr.cell hV k12_c21
        have v_c30 := Gr.cell hV k12_c30
        have v_c31 := Gr.cell hV k12_c31
        have v_cz0 := Gr.cell hV k12_cz0
        have v_cz1 := Gr.cell hV k12_cz1
        have v_co0 := Gr.cell hV k12_co0
        have v_co1 := Gr.cell hV k12_co1
        have v_cs0 := Gr.cell hV k12_cs0
        have v_cs1 := Gr.cell hV k12_cs1
        have v_cm0 := Gr.cell hV k12_cm0
        have v_cm1 := Gr.cell hV k12_cm1
        simp only [puts, Act.put, List.setIfInBounds_toArray, List.set_cons_zero, List.set_cons_succ, List.getD_cons_zero, List.getD_cons_succ, g11] at hK ⊢
        have hK2 := hid hK
        clear hK
        refine ⟨rfl, ?_⟩
        go_simp
        exact hK2.out _ (Gr.refl _)
      refine StepsV.cons (StepV.mk fun vs V K hV hd hK => ?_) ?_
      · have g12 := hd { on := 12, ground := .guard } (by simp) rfl
        try simp only [List.getD_cons_zero, List.getD_cons_succ] at g12
        have v_c10 := Gr.cell hV k12_c10
        have v_c11 := Gr.cell hV k12_c11
        have v_c20 := Gr.cell hV k12_c20
        have v_c21 := Gr.cell hV k12_c21
        have v_c30 := Gr.cell hV k12_c30
        have v_c31 := Gr.cell hV k12_c31
        have v_cz0 := Gr.cell hV k12_cz0
        have v_cz1 := Gr.cell hV k12_cz1
        have v_co0 := Gr.cell hV k12_co0
        have v_co1 := Gr.cell hV k12_co1
        have v_cs0 := Gr.cell hV k12_cs0
        have v_cs1 := Gr.cell hV k12_cs1
        have v_cm0 := Gr.cell hV k12_cm0
        have v_cm1 := Gr.cell hV k12_cm1
        simp only [puts, Act.put, List.setIfInBounds_toArray, List.set_cons_zero, List.set_cons_succ, List.getD_cons_zero, List.getD_cons_succ, g12] at hK ⊢
        have hK2 := hid hK
        clear hK
        refine ⟨rfl, ?_⟩
        go_simp
        exact hK2.out _ (Gr.refl _)
      refine StepsV.cons (StepV.mk fun vs V K hV hd hK => ?_) ?_
      · have g13 := hd { on := 13, ground := .data } (by simp) rfl
        try simp only [List.getD_cons_zero, List.getD_cons_succ] at g13
        have g12 := hd { on := 12, ground := .guard } (by simp) rfl
        try simp only [List.getD_cons_zero, List.getD_cons_succ] at g12
        have v_c10 := Gr.cell hV k12_c10
        have v_c11 := Gr.cell hV k12_c11
        have v_c20 := Gr.cell hV k12_c20
        have v_c21 := Gr.cell hV k12_c21
        have v_c30 := Gr.cell hV k12_c30
        have v_c31 := Gr.cell hV k12_c31
        have v_cz0 := Gr.cell hV k12_cz0
        have v_cz1 := Gr.cell hV k12_cz1
        have v_co0 := Gr.cell hV k12_co0
        have v_co1 := Gr.cell hV k12_co1
        have v_cs0 := Gr.cell hV k12_cs0
        have v_cs1 := Gr.cell hV k12_cs1
        have v_cm0 := Gr.cell hV k12_cm0
        have v_cm1 := Gr.cell hV k12_cm1
        simp only [puts, Act.put, List.setIfInBounds_toArray, List.set_cons_zero, List.set_cons_succ, List.getD_cons_zero, List.getD_cons_succ, g12, g13] at hK ⊢
        have hK2 := hid hK
        clear hK
        refine ⟨rfl, ?_⟩
        go_simp
        refine (HGM.out V _ (KM.out.gr hV).az).mono ?_
        rintro e w2 ⟨rfl, hg2⟩
        exact hK2.out _ hg2
      refine StepsV.cons (StepV.mk fun vs V K hV hd hK => ?_) ?_
      · have g12 := hd { on := 12, ground := .guard } (by simp) rfl
        try simp only [List.getD_cons_zero, List.getD_cons_succ] at g12
        have v_c10 := Gr.cell hV k12_c10
        have v_c11 := Gr.cell hV k12_c11
        have v_c20 := Gr.cell hV k12_c20
        have v_c21 := Gr.cell hV k12_c21
        have v_c30 := Gr.cell hV k12_c30
        have v_c31 := Gr.cell hV k12_c31
        have v_cz0 := Gr.cell hV k12_cz0
        have v_cz1 := Gr.cell hV k12_cz1
        have v_co0 := Gr.cell hV k12_co0
        have v_co1 := Gr.cell hV k12_co1
        have v_cs0 := Gr.cell hV k12_cs0
        have v_cs1 := Gr.cell hV k12_cs1
        have v_cm0 := Gr.cell hV k12_cm0
        have v_cm1 := Gr.cell hV k12_cm1
        simp only [puts, Act.put, List.setIfInBounds_toArray, List.set_cons_zero, List.set_cons_succ, List.getD_cons_zero, List.getD_cons_succ, g12] at hK ⊢
        have hK2 := hid hK
        clear hK
        refine ⟨rfl, ?_⟩
        go_simp
        exact hK2.out _ (Gr.refl _)
      refine StepsV.cons (StepV.mk fun vs V K hV hd hK => ?_) ?_
      · have g15 := hd { on := 15, ground := .data } (by simp) rfl
        try simp only [List.getD_cons_zero, List.getD_cons_succ] at g15
        have g12 := hd { on := 12, ground := .guard } (by simp) rfl
        try simp only [List.getD_cons_zero, List.getD_cons_succ] at g12
        have v_c10 := Gr.cell hV k12_c10
        have v_c11 := Gr.cell hV k12_c11
        have v_c20 := Gr.cell hV k12_c20
        have v_c21 := Gr.cell hV k12_c21
        have v_c30 := Gr.cell hV k12_c30
        have v_c31 := Gr.cell hV k12_c31
        have v_cz0 := Gr.cell hV k12_cz0
        have v_cz1 := Gr.cell hV k12_cz1
        have v_co0 := Gr.cell hV k12_co0
        have v_co1 := Gr.cell hV k12_co1
        have v_cs0 := Gr.cell hV k12_cs0
        have v_cs1 := Gr.cell hV k12_cs1
        have v_cm0 := Gr.cell hV k12_cm0
        have v_cm1 := Gr.cell hV k12_cm1
        simp only [puts, Act.put, List.setIfInBounds_toArray, List.set_cons_zero, List.set_cons_succ, List.getD_cons_zero, List.getD_cons_succ, g12, g15] at hK ⊢
        have hK2 := hid hK
        clear hK
        refine ⟨rfl, ?_⟩
        go_simp
        refine (HGA.out V _ (KA.out.gr hV)).mono ?_
        rintro e w2 ⟨rfl, hg2⟩
        exact hK2.out _ hg2
      refine StepsV.cons (StepV.mk fun vs V K hV hd hK => ?_) ?_
      · have g12 := hd { on := 12, ground := .guard } (by simp) rfl
        try simp only [List.getD_cons_zero, List.getD_cons_succ] at g12
        have v_c10 := Gr.cell hV k12_c10
        have v_c11 := Gr.cell hV k12_c11
        have v_c20 := Gr.cell hV k12_c20
        have v_c21 := Gr.cell hV k12_c21
        have v_c30 := Gr.cell hV k12_c30
        have v_c31 := Gr.cell hV k12_c31
        have v_cz0 := Gr.cell hV k12_cz0
        have v_cz1 := Gr.cell hV k12_cz1
        have v_co0 := Gr.cell hV k12_co0
        have v_co1 := Gr.cell hV k12_co1
        have v_cs0 := Gr.cell hV k12_cs0
        have v_cs1 := Gr.cell hV k12_cs1
        have v_cm0 := Gr.cell hV k12_cm0
        have v_cm1 := Gr.cell hV k12_cm1
        simp only [puts, Act.put, List.setIfInBounds_toArray, List.set_cons_zero, List.set_cons_succ, List.getD_cons_zero, List.getD_cons_succ, g12] at hK ⊢
        have hK2 := hid hK
        clear hK
        refine ⟨rfl, ?_⟩
        go_simp
        exact hK2.out _ (Gr.refl _)
      refine StepsV.cons (StepV.mk fun vs V K hV hd hK => ?_) ?_
      · have g17 := hd { on := 17, ground := .data } (by simp) rfl
        try simp only [List.getD_cons_zero, List.getD_cons_succ] at g17
        have g12 := hd { on := 12, ground := .guard } (by simp) rfl
        try simp only [List.getD_cons_zero, List.getD_cons_succ] at g12
        have v_c10 := Gr.cell hV k12_c10
        have v_c11 := Gr.cell hV k12_c11
        have v_c20 := Gr.cell hV k12_c20
        have v_c21 := Gr.cell hV k12_c21
        have v_c30 := Gr.cell hV k12_c30
        have v_c31 := Gr.cell hV k12_c31
        have v_cz0 := Gr.cell hV k12_cz0
        have v_cz1 := Gr.cell hV k12_cz1
        have v_co0 := Gr.cell hV k12_co0
        have v_co1 := Gr.cell hV k12_co1
        have v_cs0 := Gr.cell hV k12_cs0
        have v_cs1 := Gr.cell hV k12_cs1
        have v_cm0 := Gr.cell hV k12_cm0
        have v_cm1 := Gr.cell hV k12_cm1
        simp only [puts, Act.put, List.setIfInBounds_toArray, List.set_cons_zero, List.set_cons_succ, List.getD_cons_zero, List.getD_cons_succ, g12, g17] at hK ⊢
        have hK2 := hid hK
        clear hK
        refine ⟨rfl, ?_⟩
        go_simp
        refine (HGB.out V _ (KB.out.gr hV)).mono ?_
        rintro e w2 ⟨rfl, hg2⟩
        exact hK2.out _ hg2
      refine StepsV.cons (StepV.mk fun vs V K hV hd hK => ?_) ?_
      · have g16 := hd { on := 16, ground := .data } (by simp) rfl
        try simp only [List.getD_cons_zero, List.getD_cons_succ] at g16
        have g18 := hd { on := 18, ground := .data } (by simp) rfl
        try simp only [List.getD_cons_zero, List.getD_cons_succ] at g18
        have g12 := hd { on := 12, ground := .guard } (by simp) rfl
        try simp only [List.getD_cons_zero, List.getD_cons_succ] at g12
        have v_c10 := Gr.cell hV k12_c10
        have v_c11 := Gr.cell hV k12_c11
        have v_c20 := Gr.cell hV k12_c20
        have v_c21 := Gr.cell hV k12_c21
        have v_c30 := Gr.cell hV k12_c30
        have v_c31 := Gr.cell hV k12_c31
        have v_cz0 := Gr.cell hV k12_cz0
        have v_cz1 := Gr.cell hV k12_cz1
        have v_co0 := Gr.cell hV k12_co0
        have v_co1 := Gr.cell hV k12_co1
        have v_cs0 := Gr.cell hV k12_cs0
        have v_cs1 := Gr.cell hV k12_cs1
        have v_cm0 := Gr.cell hV k12_cm0
        have v_cm1 := Gr.cell hV k12_cm1
        simp only [puts, Act.put, List.setIfInBounds_toArray, List.set_cons_zero, List.set_cons_succ, List.getD_cons_zero, List.getD_cons_succ, g12, g16, g18] at hK ⊢
        have hK2 := hid hK
        clear hK
        refine ⟨rfl, ?_⟩
        go_simp
        exact hK2.out _ (Gr.refl _)
      refine StepsV.cons (StepV.mk fun vs V K hV hd hK => ?_) ?_
      · have g14 := hd { on := 14, ground := .data } (by simp) rfl
        try simp only [List.getD_cons_zero, List.getD_cons_succ] at g14
        have g19 := hd { on := 19, ground := .data } (by simp) rfl
        try simp only [List.getD_cons_zero, List.getD_cons_succ] at g19
        have g12 := hd { on := 12, ground := .guard } (by simp) rfl
        try simp only [List.getD_cons_zero, List.getD_cons_succ] at g12
        have v_c10 := Gr.cell hV k12_c10
        have v_c11 := Gr.cell hV k12_c11
        have v_c20 := Gr.cell hV k12_c20
        have v_c21 := Gr.cell hV k12_c21
        have v_c30 := Gr.cell hV k12_c30
        have v_c31 := Gr.cell hV k12_c31
        have v_cz0 := Gr.cell hV k12_cz0
        have v_cz1 := Gr.cell hV k12_cz1
        have v_co0 := Gr.cell hV k12_co0
        have v_co1 := Gr.cell hV k12_co1
        have v_cs0 := Gr.cell hV k12_cs0
        have v_cs1 := Gr.cell hV k12_cs1
        have v_cm0 := Gr.cell hV k12_cm0
        have v_cm1 := Gr.cell hV k12_cm1
        simp only [puts, Act.put, List.setIfInBounds_toArray, List.set_cons_zero, List.set_cons_succ, List.getD_cons_zero, List.getD_cons_succ, g12, g14, g19] at hK ⊢
        have hK2 := hid hK
        clear hK
        refine ⟨rfl, ?_⟩
        go_simp
        exact hK2.out _ (Gr.refl _)
      refine StepsV.cons (StepV.mk fun vs V K hV hd hK => ?_) ?_
      · have g12 := hd { on := 12, ground := .data } (by simp) rfl
        try simp only [List.getD_cons_zero, List.getD_cons_succ] at g12
        have g20 := hd { on := 20, ground := .data } (by simp) rfl
        try simp only [List.getD_cons_zero, List.getD_cons_succ] at g20
        have v_c10 := Gr.cell hV k12_c10
        have v_c11 := Gr.cell hV k12_c11
        have v_c20 := Gr.cell hV k12_c20
        have v_c21 := Gr.cell hV k12_c21
        have v_c30 := Gr.cell hV k12_c30
        have v_c31 := Gr.cell hV k12_c31
        have v_cz0 := Gr.cell hV k12_cz0
        have v_cz1 := Gr.cell hV k12_cz1
        have v_co0 := Gr.cell hV k12_co0
        have v_co1 := Gr.cell hV k12_co1
        have v_cs0 := Gr.cell hV k12_cs0
        have v_cs1 := Gr.cell hV k12_cs1
        have v_cm0 := Gr.cell hV k12_cm0
        have v_cm1 := Gr.cell hV k12_cm1
        simp only [puts, Act.put, List.setIfInBounds_toArray, List.set_cons_zero, List.set_cons_succ, List.getD_cons_zero, List.getD_cons_succ, g12, g20] at hK ⊢
        have hK2 := hid hK
        clear hK
        refine ⟨rfl, ?_⟩
        go_simp
        exact hK2.out _ (Gr.refl _)
      refine StepsV.cons (StepV.mk fun vs V K hV hd hK => ?_) ?_
      · have g21 := hd { on := 21, ground := .data } (by simp) rfl
        try simp only [List.getD_cons_zero, List.getD_cons_succ] at g21
        have v_c10 := Gr.cell hV k12_c10
        have v_c11 := Gr.cell hV k12_c11
        have v_c20 := Gr.cell hV k12_c20
        have v_c21 := Gr.cell hV k12_c21
        have v_c30 := Gr.cell hV k12_c30
        have v_c31 := Gr.cell hV k12_c31
        have v_cz0 := Gr.cell hV k12_cz0
        have v_cz1 := Gr.cell hV k12_cz1
        have v_co0 := Gr.cell hV k12_co0
        have v_co1 := Gr.cell hV k12_co1
        have v_cs0 := Gr.cell hV k12_cs0
        have v_cs1 := Gr.cell hV k12_cs1
        have v_cm0 := Gr.cell hV k12_cm0
        have v_cm1 := Gr.cell hV k12_cm1
        simp only [puts, Act.put, List.setIfInBounds_toArray, List.set_cons_zero, List.set_cons_succ, List.getD_cons_zero, List.getD_cons_succ, g21] at hK ⊢
        have hK2 := hid hK
        clear hK
        refine ⟨rfl, ?_⟩
        go_simp
        exact hK2.out _ (Gr.refl _)
      refine StepsV.cons (StepV.mk fun vs V K hV hd hK => ?_) ?_
      · have g22 := hd { on := 22, ground := .guard } (by simp) rfl
        try simp only [List.getD_cons_zero, List.getD_cons_succ] at g22
        have v_c10 := Gr.cell hV k12_c10
        have v_c11 := Gr.cell hV k12_c11
        have v_c20 := Gr.cell hV k12_c20
        have v_c21 := Gr.cell hV k12_c21
        have v_c30 := Gr.cell hV k12_c30
        have v_c31 := Gr.cell hV k12_c31
        have v_cz0 := Gr.cell hV k12_cz0
        have v_cz1 := Gr.cell hV k12_cz1
        have v_co0 := Gr.cell hV k12_co0
        have v_co1 := Gr.cell hV k12_co1
        have v_cs0 := Gr.cell hV k12_cs0
        have v_cs1 := Gr.cell hV k12_cs1
        have v_cm0 := Gr.cell hV k12_cm0
        have v_cm1 := Gr.cell hV k12_cm1
        simp only [puts, Act.put, List.setIfInBounds_toArray, List.set_cons_zero, List.set_cons_succ, List.getD_cons_zero, List.getD_cons_succ, g22] at hK ⊢
        have hK2 := hid hK
        clear hK
        refine ⟨rfl, ?_⟩
        go_simp
        refine (awake2_c V (HT.out.gr (HG.out.trans hV))).mono ?_
        rintro e w2 ⟨rfl, hg2⟩
        exact hK2.out _ hg2
      refine StepsV.cons (StepV.mk fun vs V K hV hd hK => ?_) ?_
      · have g22 := hd { on := 22, ground := .data } (by simp) rfl
        try simp only [List.getD_cons_zero, List.getD_cons_succ] at g22
        have g23 := hd { on := 23, ground := .data } (by simp) rfl
        try simp only [List.getD_cons_zero, List.getD_cons_succ] at g23
        have v_c10 := Gr.cell hV k12_c10
        have v_c11 := Gr.cell hV k12_c11
        have v_c20 := Gr.cell hV k12_c20
        have v_c21 := Gr.cell hV k12_c21
        have v_c30 := Gr.cell hV k12_c30
        have v_c31 := Gr.cell hV k12_c31
        have v_cz0 := Gr.cell hV k12_cz0
        have v_cz1 := Gr.cell hV k12_cz1
        have v_co0 := Gr.cell hV k12_co0
        have v_co1 := Gr.cell hV k12_co1
        have v_cs0 := Gr.cell hV k12_cs0
        have v_cs1 := Gr.cell hV k12_cs1
        have v_cm0 := Gr.cell hV k12_cm0
        have v_cm1 := Gr.cell hV k12_cm1
        simp only [puts, Act.put, List.setIfInBounds_toArray, List.set_cons_zero, List.set_cons_succ, List.getD_cons_zero, List.getD_cons_succ, g22, g23] at hK ⊢
        have hK2 := hid hK
        clear hK
        refine ⟨rfl, ?_⟩
        go_simp
        exact hK2.out _ (Gr.refl _)
      refine StepsV.cons (StepV.mk fun vs V K hV hd hK => ?_) ?_
      · have g24 := hd { on := 24, ground := .data } (by simp) rfl
        try simp only [List.getD_cons_zero, List.getD_cons_succ] at g24
        have v_c10 := Gr.cell hV k12_c10
        have v_c11 := Gr.cell hV k12_c11
        have v_c20 := Gr.cell hV k12_c20
        have v_c21 := Gr.cell hV k12_c21
        have v_c30 := Gr.cell hV k12_c30
        have v_c31 := Gr.cell hV k12_c31
        have v_cz0 := Gr.cell hV k12_cz0
        have v_cz1 := Gr.cell hV k12_cz1
        have v_co0 := Gr.cell hV k12_co0
        have v_co1 := Gr.cell hV k12_co1
        have v_cs0 := Gr.cell hV k12_cs0
        have v_cs1 := Gr.cell hV k12_cs1
        have v_cm0 := Gr.cell hV k12_cm0
        have v_cm1 := Gr.cell hV k12_cm1
        simp only [puts, Act.put, List.setIfInBounds_toArray, List.set_cons_zero, List.set_cons_succ, List.getD_cons_zero, List.getD_cons_succ, g24] at hK ⊢
        have hK2 := hid hK
        clear hK
        refine ⟨rfl, ?_⟩
        go_simp
        exact hK2.out _ (Gr.refl _)
      exact StepsV.nil
    intro w9 hg
    have HX1 := hid hg
    clear hg
    simp only [puts, Act.put, List.setIfInBounds_toArray, List.set_cons_zero, List.set_cons_succ, List.getD_cons_zero, List.getD_cons_succ]
    have k13_c10 := Gr.cell HX1.out k12_c10
    have k13_c11 := Gr.cell HX1.out k12_c11
    have k13_c20 := Gr.cell HX1.out k12_c20
    have k13_c21 := Gr.cell HX1.out k12_c21
    have k13_c30 := Gr.cell HX1.out k12_c30
    have k13_c31 := Gr.cell HX1.out k12_c31
    have k13_cz0 := Gr.cell HX1.out k12_cz0
    have k13_cz1 := Gr.cell HX1.out k12_cz1
    have k13_co0 := Gr.cell HX1.out k12_co0
    have k13_co1 := Gr.cell HX1.out k12_co1
    have k13_cs0 := Gr.cell HX1.out k12_cs0
    have k13_cs1 := Gr.cell HX1.out k12_cs1
    have k13_cm0 := Gr.cell HX1.out k12_cm0
    have k13_cm1 := Gr.cell HX1.out k12_cm1
    clear k12_c10 k12_c11 k12_c20 k12_c21 k12_c30 k12_c31 k12_cz0 k12_cz1 k12_co0 k12_co1 k12_cs0 k12_cs1 k12_cm0 k12_cm1
    replace KA := hid (KA.out.gr HX1.out)
    replace KB := hid (KB.out.gr HX1.out)
    replace KC := hid (KC.out.gr HX1.out)
    replace KZ := hid (KZ.out.gr HX1.out)
    replace KO := hid (KO.out.gr HX1.out)
    replace KS := hid (KS.out.gr HX1.out)
    replace KM := hid (KM.out.gr HX1.out)
    replace HG := hid (HG.out.trans HX1.out)
    clear HX1
    go_wp2
    go_ret
    exact ⟨rfl, HG.out⟩
  · by_cases hb0 : sb = 0
    · have hm0 : sm = 0 := by rw [HMM.out, hb0, Int.mul_zero]
      have e1 : (sa == 0) = false := by rw [beq_eq_false_iff_ne]; exact ha0
      have e1b : (sb == 0) = true := by rw [hb0]; rfl
      have e2 : (sm == 0) = true := by rw [hm0]; rfl
      have e3 : (sm == sm) = true := by simp
      clear ha0 hb0 hm0
      go_region_held3 (fun V => V.cell? ⟨W.heap.size, 0, none⟩ = some (.bool s1) ∧ V.cell? ⟨W.heap.size, 1, none⟩ = some (.slice A1 l1 c1) ∧ V.cell? ⟨W.heap.size + 1, 0, none⟩ = some (.bool s2) ∧ V.cell? ⟨W.heap.size + 1, 1, none⟩ = some (.slice A2 l2 c2) ∧ V.cell? ⟨W.heap.size + 2, 0, none⟩ = some (.bool s3) ∧ V.cell? ⟨W.heap.size + 2, 1, none⟩ = some (.slice A3 l3 c3) ∧ V.cell? ⟨w1.heap.size, 0, none⟩ = some (.bool bsz) ∧ V.cell? ⟨w1.heap.size, 1, none⟩ = some (.slice Az lz cz) ∧ V.cell? ⟨w2.heap.size, 0, none⟩ = some (.bool bso) ∧ V.cell? ⟨w2.heap.size, 1, none⟩ = some (.slice Ao lo co) ∧ V.cell? ⟨w3.heap.size, 0, none⟩ = some (.bool bss) ∧ V.cell? ⟨w3.heap.size, 1, none⟩ = some (.slice As ls cs) ∧ V.cell? ⟨w4.heap.size, 0, none⟩ = some (.bool bsm) ∧ V.cell? ⟨w4.heap.size, 1, none⟩ = some (.slice Am lm cm))
        (first
          | exact ⟨k12_c10, k12_c11, k12_c20, k12_c21, k12_c30, k12_c31, k12_cz0, k12_cz1, k12_co0, k12_co1, k12_cs0, k12_cs1, k12_cm0, k12_cm1⟩
          | with_reducible exact ⟨Gr.cell HX1.out k12_c10, Gr.cell HX1.out k12_c11, Gr.cell HX1.out k12_c20, Gr.cell HX1.out k12_c21, Gr.cell HX1.out k12_c30, Gr.cell HX1.out k12_c31, Gr.cell HX1.out k12_cz0, Gr.cell HX1.out k12_cz1, Gr.cell HX1.out k12_co0, Gr.cell HX1.out k12_co1, Gr.cell HX1.out k12_cs0, Gr.cell HX1.out k12_cs1, Gr.cell HX1.out k12_cm0, Gr.cell HX1.out k12_cm1⟩
          | with_reducible exact ⟨Gr.cell HX2.out k12_c10, Gr.cell HX2.out k12_c11, Gr.cell HX2.out k12_c20, Gr.cell HX2.out k12_c21, Gr.cell HX2.out k12_c30, Gr.cell HX2.out k12_c31, Gr.cell HX2.out k12_cz0, Gr.cell HX2.out k12_cz1, Gr.cell HX2.out k12_co0, Gr.cell HX2.out k12_co1, Gr.cell HX2.out k12_cs0, Gr.cell HX2.out k12_cs1, Gr.cell HX2.out k12_cm0, Gr.cell HX2.out k12_cm1⟩
          | with_reducible exact ⟨Gr.cell HX3.out k12_c10, Gr.cell HX3.out k12_c11, Gr.cell HX3.out k12_c20, Gr.cell HX3.out k12_c21, Gr.cell HX3.out k12_c30, Gr.cell HX3.out k12_c31, Gr.cell HX3.out k12_cz0, Gr.cell HX3.out k12_cz1, Gr.cell HX3.out k12_co0, Gr.cell HX3.out k12_co1, Gr.cell HX3.out k12_cs0, Gr.cell HX3.out k12_cs1, Gr.cell HX3.out k12_cm0, Gr.cell HX3.out k12_cm1⟩
          | with_reducible exact ⟨Gr.cell HX4.out k12_c10, Gr.cell HX4.out k12_c11, Gr.cell HX4.out k12_c20, Gr.cell HX4.out k12_c21, Gr.cell HX4.out k12_c30, Gr.cell HX4.out k12_c31, Gr.cell HX4.out k12_cz0, Gr.cell HX4.out k12_cz1, Gr.cell HX4.out k12_co0, Gr.cell HX4.out k12_co1, Gr.cell HX4.out k12_cs0, Gr.cell HX4.out k12_cs1, Gr.cell HX4.out k12_cm0, Gr.cell HX4.out k12_cm1⟩
          | with_reducible exact ⟨Gr.cell HX5.out k12_c10, Gr.cell HX5.out k12_c11, Gr.cell HX5.out k12_c20, Gr.cell HX5.out k12_c21, Gr.cell HX5.out k12_c30, Gr.cell HX5.out k12_c31, Gr.cell HX5.out k12_cz0, Gr.cell HX5.out k12_cz1, Gr.cell HX5.out k12_co0, Gr.cell HX5.out k12_co1, Gr.cell HX5.out k12_cs0, Gr.cell HX5.out k12_cs1, Gr.cell HX5.out k12_cm0, Gr.cell HX5.out k12_cm1⟩
          | with_reducible exact ⟨Gr.cell HX6.out k12_c10, Gr.cell HX6.out k12_c11, Gr.cell HX6.out k12_c20, Gr.cell HX6.out k12_c21, Gr.cell HX6.out k12_c30, Gr.cell HX6.out k12_c31, Gr.cell HX6.out k12_cz0, Gr.cell HX6.out k12_cz1, Gr.cell HX6.out k12_co0, Gr.cell HX6.out k12_co1, Gr.cell HX6.out k12_cs0, Gr.cell HX6.out k12_cs1, Gr.cell HX6.out k12_cm0, Gr.cell HX6.out k12_cm1⟩
          | with_reducible exact ⟨Gr.cell HX7.out k12_c10, Gr.cell HX7.out k12_c11, Gr.cell HX7.out k12_c20, Gr.cell HX7.out k12_c21, Gr.cell HX7.out k12_c30, Gr.cell HX7.out k12_c31, Gr.cell HX7.out k12_cz0, Gr.cell HX7.out k12_cz1, Gr.cell HX7.out k12_co0, Gr.cell HX7.out k12_co1, Gr.cell HX7.out k12_cs0, Gr.cell HX7.out k12_cs1, Gr.cell HX7.out k12_cm0, Gr.cell HX7.out k12_cm1⟩)
        (first
          | (go_at_call 55; refine (awake2_c x6 (HT.out.gr (HG.out.trans HX6.out))).mono ?_; rintro e w9 ⟨rfl, hg⟩; have HX7 := hid (HX6.out.trans hg); clear hg)
          | (go_at_call 60; refine (HGB.out x5 _ (KB.out.gr HX5.out)).mono ?_; rintro e x6 ⟨rfl, hg⟩; have HX6 := hid (HX5.out.trans hg); clear hg)
          | (go_at_call 60; refine (HGA.out x4 _ (KA.out.gr HX4.out)).mono ?_; rintro e x5 ⟨rfl, hg⟩; have HX5 := hid (HX4.out.trans hg); clear hg)
          | (go_at_call 60; refine (HGM.out x3 _ (KM.out.gr HX3.out).az).mono ?_; rintro e x4 ⟨rfl, hg⟩; have HX4 := hid (HX3.out.trans hg); clear hg)
          | (go_at_call 60; refine (HGB.out x2 _ (KB.out.gr HX2.out)).mono ?_; rintro e x3 ⟨rfl, hg⟩; have HX3 := hid (HX2.out.trans hg); clear hg)
          | (go_at_call 60; refine (HGA.out x1 _ (KA.out.gr HX1.out)).mono ?_; rintro e x2 ⟨rfl, hg⟩; have HX2 := hid (HX1.out.trans hg); clear hg)
          | (go_at_call 60; refine (HGM.out _ _ (KM.out.gr ((Gr.refl w8).drew)).az).mono ?_; rintro e x1 ⟨rfl, hg⟩; have HX1 := hid (((Gr.refl w8).drew).trans hg); clear hg))
      have k13_c10 := Gr.cell HX7.out k12_c10
      have k13_c11 := Gr.cell HX7.out k12_c11
      have k13_c20 := Gr.cell HX7.out k12_c20
      have k13_c21 := Gr.cell HX7.out k12_c21
      have k13_c30 := Gr.cell HX7.out k12_c30
      have k13_c31 := Gr.cell HX7.out k12_c31
      have k13_cz0 := Gr.cell HX7.out k12_cz0
      have k13_cz1 := Gr.cell HX7.out k12_cz1
      have k13_co0 := Gr.cell HX7.out k12_co0
      have k13_co1 := Gr.cell HX7.out k12_co1
      have k13_cs0 := Gr.cell HX7.out k12_cs0
      have k13_cs1 := Gr.cell HX7.out k12_cs1
      have k13_cm0 := Gr.cell HX7.out k12_cm0
      have k13_cm1 := Gr.cell HX7.out k12_cm1
      clear k12_c10 k12_c11 k12_c20 k12_c21 k12_c30 k12_c31 k12_cz0 k12_cz1 k12_co0 k12_co1 k12_cs0 k12_cs1 k12_cm0 k12_cm1
      replace KA := hid (KA.out.gr HX7.out)
      replace KB := hid (KB.out.gr HX7.out)
      replace KC := hid (KC.out.gr HX7.out)
      replace KZ := hid (KZ.out.gr HX7.out)
      replace KO := hid (KO.out.gr HX7.out)
      replace KS := hid (KS.out.gr HX7.out)
      replace KM := hid (KM.out.gr HX7.out)
      replace HG := hid (HG.out.trans HX7.out)
      clear HX1 HX2 HX3 HX4 HX5 HX6 HX7
      go_wp2
      go_ret
      exact ⟨rfl, HG.out⟩
    · have hm0 : sm ≠ 0 := by rw [HMM.out]; exact Int.mul_ne_zero ha0 hb0
      have e1 : (sa == 0) = false := by rw [beq_eq_false_iff_ne]; exact ha0
      have e1b : (sb == 0) = false := by rw [beq_eq_false_iff_ne]; exact hb0
      have e2 : (sm == 0) = false := by rw [beq_eq_false_iff_ne]; exact hm0
      have e3 : (sm == sm) = true := by simp
      clear ha0 hb0 hm0
      go_region_held3 (fun V => V.cell? ⟨W.heap.size, 0, none⟩ = some (.bool s1) ∧ V.cell? ⟨W.heap.size, 1, none⟩ = some (.slice A1 l1 c1) ∧ V.cell? ⟨W.heap.size + 1, 0, none⟩ = some (.bool s2) ∧ V.cell? ⟨W.heap.size + 1, 1, none⟩ = some (.slice A2 l2 c2) ∧ V.cell? ⟨W.heap.size + 2, 0, none⟩ = some (.bool s3) ∧ V.cell? ⟨W.heap.size + 2, 1, none⟩ = some (.slice A3 l3 c3) ∧ V.cell? ⟨w1.heap.size, 0, none⟩ = some (.bool bsz) ∧ V.cell? ⟨w1.heap.size, 1, none⟩ = some (.slice Az lz cz) ∧ V.cell? ⟨w2.heap.size, 0, none⟩ = some (.bool bso) ∧ V.cell? ⟨w2.heap.size, 1, none⟩ = some (.slice Ao lo co) ∧ V.cell? ⟨w3.heap.size, 0, none⟩ = some (.bool bss) ∧ V.cell? ⟨w3.heap.size, 1, none⟩ = some (.slice As ls cs) ∧ V.cell? ⟨w4.heap.size, 0, none⟩ = some (.bool bsm) ∧ V.cell? ⟨w4.heap.size, 1, none⟩ = some (.slice Am lm cm))
        (first
          | exact ⟨k12_c10, k12_c11, k12_c20, k12_c21, k12_c30, k12_c31, k12_cz0, k12_cz1, k12_co0, k12_co1, k12_cs0, k12_cs1, k12_cm0, k12_cm1⟩
          | with_reducible exact ⟨Gr.cell HX1.out k12_c10, Gr.cell HX1.out k12_c11, Gr.cell HX1.out k12_c20, Gr.cell HX1.out k12_c21, Gr.cell HX1.out k12_c30, Gr.cell HX1.out k12_c31, Gr.cell HX1.out k12_cz0, Gr.cell HX1.out k12_cz1, Gr.cell HX1.out k12_co0, Gr.cell HX1.out k12_co1, Gr.cell HX1.out k12_cs0, Gr.cell HX1.out k12_cs1, Gr.cell HX1.out k12_cm0, Gr.cell HX1.out k12_cm1⟩
          | with_reducible exact ⟨Gr.cell HX2.out k12_c10, Gr.cell HX2.out k12_c11, Gr.cell HX2.out k12_c20, Gr.cell HX2.out k12_c21, Gr.cell HX2.out k12_c30, Gr.cell HX2.out k12_c31, Gr.cell HX2.out k12_cz0, Gr.cell HX2.out k12_cz1, Gr.cell HX2.out k12_co0, Gr.cell HX2.out k12_co1, Gr.cell HX2.out k12_cs0, Gr.cell HX2.out k12_cs1, Gr.cell HX2.out k12_cm0, Gr.cell HX2.out k12_cm1⟩
          | with_reducible exact ⟨Gr.cell HX3.out k12_c10, Gr.cell HX3.out k12_c11, Gr.cell HX3.out k12_c20, Gr.cell HX3.out k12_c21, Gr.cell HX3.out k12_c30, Gr.cell HX3.out k12_c31, Gr.cell HX3.out k12_cz0, Gr.cell HX3.out k12_cz1, Gr.cell HX3.out k12_co0, Gr.cell HX3.out k12_co1, Gr.cell HX3.out k12_cs0, Gr.cell HX3.out k12_cs1, Gr.cell HX3.out k12_cm0, Gr.cell HX3.out k12_cm1⟩
          | with_reducible exact ⟨Gr.cell HX4.out k12_c10, Gr.cell HX4.out k12_c11, Gr.cell HX4.out k12_c20, Gr.cell HX4.out k12_c21, Gr.cell HX4.out k12_c30, Gr.cell HX4.out k12_c31, Gr.cell HX4.out k12_cz0, Gr.cell HX4.out k12_cz1, Gr.cell HX4.out k12_co0, Gr.cell HX4.out k12_co1, Gr.cell HX4.out k12_cs0, Gr.cell HX4.out k12_cs1, Gr.cell HX4.out k12_cm0, Gr.cell HX4.out k12_cm1⟩
          | with_reducible exact ⟨Gr.cell HX5.out k12_c10, Gr.cell HX5.out k12_c11, Gr.cell HX5.out k12_c20, Gr.cell HX5.out k12_c21, Gr.cell HX5.out k12_c30, Gr.cell HX5.out k12_c31, Gr.cell HX5.out k12_cz0, Gr.cell HX5.out k12_cz1, Gr.cell HX5.out k12_co0, Gr.cell HX5.out k12_co1, Gr.cell HX5.out k12_cs0, Gr.cell HX5.out k12_cs1, Gr.cell HX5.out k12_cm0, Gr.cell HX5.out k12_cm1⟩
          | with_reducible exact ⟨Gr.cell HX6.out k12_c10, Gr.cell HX6.out k12_c11, Gr.cell HX6.out k12_c20, Gr.cell HX6.out k12_c21, Gr.cell HX6.out k12_c30, Gr.cell HX6.out k12_c31, Gr.cell HX6.out k12_cz0, Gr.cell HX6.out k12_cz1, Gr.cell HX6.out k12_co0, Gr.cell HX6.out k12_co1, Gr.cell HX6.out k12_cs0, Gr.cell HX6.out k12_cs1, Gr.cell HX6.out k12_cm0, Gr.cell HX6.out k12_cm1⟩
          | with_reducible exact ⟨Gr.cell HX7.out k12_c10, Gr.cell HX7.out k12_c11, Gr.cell HX7.out k12_c20, Gr.cell HX7.out k12_c21, Gr.cell HX7.out k12_c30, Gr.cell HX7.out k12_c31, Gr.cell HX7.out k12_cz0, Gr.cell HX7.out k12_cz1, Gr.cell HX7.out k12_co0, Gr.cell HX7.out k12_co1, Gr.cell HX7.out k12_cs0, Gr.cell HX7.out k12_cs1, Gr.cell HX7.out k12_cm0, Gr.cell HX7.out k12_cm1⟩)
        (first
          | (go_at_call 55; refine (awake2_c x6 (HT.out.gr (HG.out.trans HX6.out))).mono ?_; rintro e w9 ⟨rfl, hg⟩; have HX7 := hid (HX6.out.trans hg); clear hg)
          | (go_at_call 60; refine (HGB.out x5 _ (KB.out.gr HX5.out)).mono ?_; rintro e x6 ⟨rfl, hg⟩; have HX6 := hid (HX5.out.trans hg); clear hg)
          | (go_at_call 60; refine (HGA.out x4 _ (KA.out.gr HX4.out)).mono ?_; rintro e x5 ⟨rfl, hg⟩; have HX5 := hid (HX4.out.trans hg); clear hg)
          | (go_at_call 60; refine (HGM.out x3 _ (KM.out.gr HX3.out).az).mono ?_; rintro e x4 ⟨rfl, hg⟩; have HX4 := hid (HX3.out.trans hg); clear hg)
          | (go_at_call 60; refine (HGB.out x2 _ (KB.out.gr HX2.out)).mono ?_; rintro e x3 ⟨rfl, hg⟩; have HX3 := hid (HX2.out.trans hg); clear hg)
          | (go_at_call 60; refine (HGA.out x1 _ (KA.out.gr HX1.out)).mono ?_; rintro e x2 ⟨rfl, hg⟩; have HX2 := hid (HX1.out.trans hg); clear hg)
          | (go_at_call 60; refine (HGM.out _ _ (KM.out.gr ((Gr.refl w8).drew)).az).mono ?_; rintro e x1 ⟨rfl, hg⟩; have HX1 := hid (((Gr.refl w8).drew).trans hg); clear hg))
      have k13_c10 := Gr.cell HX7.out k12_c10
      have k13_c11 := Gr.cell HX7.out k12_c11
      have k13_c20 := Gr.cell HX7.out k12_c20
      have k13_c21 := Gr.cell HX7.out k12_c21
      have k13_c30 := Gr.cell HX7.out k12_c30
      have k13_c31 := Gr.cell HX7.out k12_c31
      have k13_cz0 := Gr.cell HX7.out k12_cz0
      have k13_cz1 := Gr.cell HX7.out k12_cz1
      have k13_co0 := Gr.cell HX7.out k12_co0
      have k13_co1 := Gr.cell HX7.out k12_co1
      have k13_cs0 := Gr.cell HX7.out k12_cs0
      have k13_cs1 := Gr.cell HX7.out k12_cs1
      have k13_cm0 := Gr.cell HX7.out k12_cm0
      have k13_cm1 := Gr.cell HX7.out k12_cm1
      clear k12_c10 k12_c11 k12_c20 k12_c21 k12_c30 k12_c31 k12_cz0 k12_cz1 k12_co0 k12_co1 k12_cs0 k12_cs1 k12_cm0 k12_cm1
      replace KA := hid (KA.out.gr HX7.out)
      replace KB := hid (KB.out.gr HX7.out)
      replace KC := hid (KC.out.gr HX7.out)
      replace KZ := hid (KZ.out.gr HX7.out)
      replace KO := hid (KO.out.gr HX7.out)
      replace KS := hid (KS.out.gr HX7.out)
      replace KM := hid (KM.out.gr HX7.out)
      replace HG := hid (HG.out.trans HX7.out)
      clear HX1 HX2 HX3 HX4 HX5 HX6 HX7
      go_wp2
      go_ret
      exact ⟨rfl, HG.out⟩
end Go.Proofs.YtkbgdiejjabdmaaDoor
