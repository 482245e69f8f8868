/- The walk of integer.DivMod, as integers. -/
import Derived.Test.YtkbgdiejjabdmaaDoorIntC
import Derived.Test.YtkbgdiejjabdmaaDoorDmZ
import Derived.Test.YtkbgdiejjabdmaaDoorAnyV
namespace Go.Proofs.YtkbgdiejjabdmaaDoor
open Go.RowKit
theorem VN.one {w : World} {b : Nat} {v : Value} {L K : Nat} (h : VN w b v 1 K) (hL : 1 ≤ L) : VN w b v 1 L := by
  obtain ⟨A, c, h1, h2, h3, h4⟩ := h
  have e : limbs 1 = [1] := by rw [limbs_pos (n := 1) (by decide), limbs_zero]; rfl
  exact ⟨A, c, h1, h2, by rw [e]; simpa using hL, h4⟩
theorem sign_rng (b : Bool) (n : Nat) : -1 ≤ (sgnd b n).sign ∧ (sgnd b n).sign ≤ 1 := by
  rw [sign_of]
  by_cases h : n = 0 <;> cases b <;> simp [h]

set_option maxHeartbeats 4000000 in
theorem zdivmod_c0 (w : World) (v1 v2 : Value) (x y : Int) (L : Nat) (h1 : AZ w v1 x L) (h2 : AZ w v2 y L) (hL : L ≤ 274877906944) (h0 : y = 0) :
    Calls Tryd.prog 68 #[v1, v2] w (RetVB w false fun u v _ => u = .agg #[.bool false, .slice none 0 0] ∧ v = .agg #[.bool false, .slice none 0 0]) := by
  obtain ⟨neg1, m1, n1, rfl, hm1, hx⟩ := h1
  obtain ⟨neg2, m2, n2, rfl, hm2, hy⟩ := h2
  have hn2 : n2 = 0 := by cases neg2 <;> simp at hy <;> omega
  clear hx hy h0
  go_enter Tryd.func68, Tryd.ntmps68
  go_wp2_with fail
  obtain ⟨W, hW⟩ : ∃ W, W = (((w.alloc (.cells #[.bool neg1, m1] 51)).alloc (.cells #[.bool neg2, m2] 51)).alloc (.cells #[.bool false, .slice none 0 0] 51)).alloc (.cells #[.bool false, .slice none 0 0] 51) := ⟨_, rfl⟩
  obtain ⟨hg, b0, b1, b2, b3⟩ := al4 w #[.bool neg1, m1] #[.bool neg2, m2] #[.bool false, .slice none 0 0] #[.bool false, .slice none 0 0] 51 51 51 51
  rw [← hW] at hg b0 b1 b2 b3 ⊢
  clear hW
  have H1 := hid (hm1.gr hg)
  have H2 := hid (hm2.gr hg)
  have c00 : W.cell? ⟨w.heap.size, 0, none⟩ = some (.bool neg1) := b0.c 0 rfl
  have c01 : W.cell? ⟨w.heap.size, 1, none⟩ = some (m1) := b0.c 1 rfl
  have c10 : W.cell? ⟨w.heap.size + 1, 0, none⟩ = some (.bool neg2) := b1.c 0 rfl
  have c11 : W.cell? ⟨w.heap.size + 1, 1, none⟩ = some (m2) := b1.c 1 rfl
  have HB0 := hid b2
  have HB1 := hid b3
  have HG := hid hg
  have HS : Hid (w.heap.size < W.heap.size) := by have h := b3.lt; unfold Hid; omega
  clear hm1 hm2 hg b0 b1 b2 b3
  refine (divMod_c0 W m1 m2 n1 n2 L H1.out H2.out (by omega) hn2).mono ?_
  rintro e w2 ⟨rfl, hg2⟩
  have HG2 := hid hg2
  have d00 := (HB0.out.gr HG2.out).c 0 rfl
  have e00 := (HB0.out.gr HG2.out).free 0
  have d01 := (HB0.out.gr HG2.out).c 1 rfl
  have e01 := (HB0.out.gr HG2.out).free 1
  have f0 := (HB0.out.gr HG2.out).lt
  have d10 := (HB1.out.gr HG2.out).c 0 rfl
  have e10 := (HB1.out.gr HG2.out).free 0
  have d11 := (HB1.out.gr HG2.out).c 1 rfl
  have e11 := (HB1.out.gr HG2.out).free 1
  have f1 := (HB1.out.gr HG2.out).lt
  clear hg2
  go_wp2
  refine int2_end_b rfl rfl rfl rfl (HB0.out.gr HG2.out) (HB1.out.gr HG2.out) (by omega) ?_
  intro V1 V hV1 hV
  have a3 := ((HG.out.trans HG2.out).ex hV1 (by omega)).ex hV (by omega)
  exact ⟨_, _, rfl, ⟨rfl, rfl⟩, a3⟩

set_option maxRecDepth 100000 in
set_option maxHeartbeats 8000000 in
theorem zdivmod_c (w : World) (v1 v2 : Value) (x y : Int) (L : Nat) (h1 : AZ w v1 x L) (h2 : AZ w v2 y L) (hL : L ≤ 274877906944) (h0 : y ≠ 0) :
    Calls Tryd.prog 68 #[v1, v2] w (RetVB w true fun u v w' => VZ w' w.heap.size u (x.fdiv y) (L + 1) ∧ VZ w' w.heap.size v (x.fmod y) L) := by
  obtain ⟨K, hK⟩ : ∃ K, K = L := ⟨_, rfl⟩
  have hKL : K ≤ 274877906944 := by omega
  obtain ⟨neg1, m1, n1, rfl, hm1, hx⟩ := h1
  obtain ⟨neg2, m2, n2, rfl, hm2, hy⟩ := h2
  rw [← hK] at hm2
  have hn2 : 0 < n2 := by
    rcases Nat.eq_zero_or_pos n2 with h | h
    · rw [h] at hy; cases neg2 <;> simp at hy <;> exact absurd hy h0
    · exact h
  obtain ⟨s1, hs1⟩ : ∃ s, s = x.sign := ⟨_, rfl⟩
  obtain ⟨s2, hs2⟩ : ∃ s, s = y.sign := ⟨_, rfl⟩
  have HSG1 : Hid (∀ V, Gr w V → Calls Tryd.prog 60 #[.agg #[.bool neg1, m1]] V (Is V (.int .i64 s1))) := fun V hV => by
    have h := sign_c V _ x L (AZ.gr ⟨neg1, m1, n1, rfl, hm1, hx⟩ hV) (by omega)
    rw [← hs1] at h
    exact h
  have HSG2 : Hid (∀ V, Gr w V → Calls Tryd.prog 60 #[.agg #[.bool neg2, m2]] V (Is V (.int .i64 s2))) := fun V hV => by
    have h := sign_c V _ y K (AZ.gr ⟨neg2, m2, n2, rfl, hm2, hy⟩ hV) (by omega)
    rw [← hs2] at h
    exact h
  obtain ⟨Q, hQ⟩ : ∃ Q, Q = x.fdiv y := ⟨_, rfl⟩
  obtain ⟨R, hR⟩ : ∃ R, R = x.fmod y := ⟨_, rfl⟩
  rw [← hQ, ← hR]
  obtain ⟨t, ht⟩ : ∃ t, t = s1 * s2 := ⟨_, rfl⟩
  have hA := dmA neg1 neg2 n1 n2 x y s1 s2 hn2 hx hy hs1 hs2
  have hB := dmB neg1 neg2 n1 n2 x y s1 s2 hn2 hx hy hs1 hs2
  rw [← hQ, ← hR, ← ht] at hA
  rw [← hQ, ← hR] at hB
  have ha1 : -1 ≤ s1 ∧ s1 ≤ 1 := by rw [hs1, hx]; exact sign_rng neg1 n1
  have ha2 : -1 ≤ s2 ∧ s2 ≤ 1 := by rw [hs2, hy]; exact sign_rng neg2 n2
  have hw : IntKind.i64.wrap (s1 * s2) = t := by
    have hb : -1 ≤ s1 * s2 ∧ s1 * s2 ≤ 1 := by
      obtain ⟨a1, a2⟩ := ha1
      obtain ⟨b1, b2⟩ := ha2
      have c1 : s1 = -1 ∨ s1 = 0 ∨ s1 = 1 := by omega
      rcases c1 with rfl | rfl | rfl <;> omega
    rw [ht]
    exact IntWalk.i64_in _ (by omega)
  have HDM : Hid (∀ V : World, Gr w V → Calls Tryd.prog 39 #[m1, m2] V (RetVB V true fun u v w' => VN w' V.heap.size u (n1 / n2) L ∧ VN w' V.heap.size v (n1 % n2) L)) := fun V hV => divMod_c V m1 m2 n1 n2 L (hm1.gr hV) ((hm2.gr hV).le (by omega)) (by omega) hn2
  have HA := hid hA
  have HB := hid hB
  obtain ⟨q, hq⟩ : ∃ q, q = n1 / n2 := ⟨_, rfl⟩
  obtain ⟨r, hr⟩ : ∃ r, r = n1 % n2 := ⟨_, rfl⟩
  have hrn : r < n2 := by rw [hr]; exact Nat.mod_lt _ hn2
  rw [← hq, ← hr] at HA HB HDM
  clear hx hy hs1 hs2 hQ hR ht ha1 ha2 hA hB hq hr h0 hn2
  have hor : ((s1 < 0 ↔ s2 < 0) ∨ r = 0) ∨ (¬ (s1 < 0 ↔ s2 < 0) ∧ r ≠ 0) := by
    by_cases a : (s1 < 0 ↔ s2 < 0)
    · exact .inl (.inl a)
    · by_cases b : r = 0
      · exact .inl (.inr b)
      · exact .inr ⟨a, b⟩
  rcases hor with hsame | ⟨hdiff, hr0⟩
  · obtain ⟨hzq, hzr⟩ := HA.out hsame
    have HMQ : Hid (∀ (w1 : World) (v : Value), AN w1 v (q) (L + 1) → Calls Tryd.prog 63 #[.bool (decide (t < 0)), v] w1 (Ret w1 fun v w' => VZ w' w1.heap.size v Q (L + 1))) := by
      intro w1 v h
      have h2 := make_c w1 (decide (t < 0)) v (q) (L + 1) h (by omega)
      rw [hzq.symm] at h2
      exact h2
    have HMR : Hid (∀ (w1 : World) (v : Value), AN w1 v (r) (L) → Calls Tryd.prog 63 #[.bool neg2, v] w1 (Ret w1 fun v w' => VZ w' w1.heap.size v R (L))) := by
      intro w1 v h
      have h2 := make_c w1 neg2 v (r) (L) h (by omega)
      rw [hzr.symm] at h2
      exact h2
    clear hzq hzr HA HB
    go_enter Tryd.func68, Tryd.ntmps68
    go_wp2_with fail
    obtain ⟨W, hW⟩ : ∃ W, W = (((w.alloc (.cells #[.bool neg1, m1] 51)).alloc (.cells #[.bool neg2, m2] 51)).alloc (.cells #[.bool false, .slice none 0 0] 51)).alloc (.cells #[.bool false, .slice none 0 0] 51) := ⟨_, rfl⟩
    obtain ⟨hg, b0, b1, b2, b3⟩ := al4 w #[.bool neg1, m1] #[.bool neg2, m2] #[.bool false, .slice none 0 0] #[.bool false, .slice none 0 0] 51 51 51 51
    rw [← hW] at hg b0 b1 b2 b3 ⊢
    clear hW
    have H1 := hid (hm1.gr hg)
    have H2 := hid (hm2.gr hg)
    have c00 : W.cell? ⟨w.heap.size, 0, none⟩ = some (.bool neg1) := b0.c 0 rfl
    have c01 : W.cell? ⟨w.heap.size, 1, none⟩ = some (m1) := b0.c 1 rfl
    have c10 : W.cell? ⟨w.heap.size + 1, 0, none⟩ = some (.bool neg2) := b1.c 0 rfl
    have c11 : W.cell? ⟨w.heap.size + 1, 1, none⟩ = some (m2) := b1.c 1 rfl
    have HB0 := hid b2
    have HB1 := hid b3
    have HG := hid hg
    have HS : Hid (w.heap.size < W.heap.size) := by have h := b3.lt; unfold Hid; omega
    clear hm1 hm2 hg b0 b1 b2 b3
    refine (HDM.out W HG.out).mono ?_
    rintro e w1 ⟨u1, u2, rfl, ⟨hvq, A2, c2, rfl, hvr⟩, hg1⟩
    have HU1 := hid hvq
    have HU2 : Hid (VN w1 W.heap.size (.slice A2 (limbs r).length c2) r L) := ⟨A2, c2, rfl, hvr⟩
    have HG1 := hid hg1
    have d00 := Gr.cell HG1.out c00
    have d01 := Gr.cell HG1.out c01
    have d10 := Gr.cell HG1.out c10
    have d11 := Gr.cell HG1.out c11
    clear hvq hvr hg1
    obtain ⟨lr, hlr⟩ : ∃ lr, lr = (limbs r).length := ⟨_, rfl⟩
    rw [← hlr] at HU2 ⊢
    have hlr0 : lr = 0 ↔ r = 0 := by
      have := limbs_lt (n := r)
      rw [hlr]
      rw [eq_iff_iff] at this
      omega
    obtain ⟨p, hp⟩ : ∃ p, p = (decide (s1 < 0) == decide (s2 < 0)) := ⟨_, rfl⟩
    have HP := hid hp
    by_cases hpf : p = true
    · have HPF := hid hpf
      clear hlr0 hlr hp hpf hsame
      go_wp2
      refine wp_region_vals [.agg #[.bool neg1, m1], .int .i64 s1, .bool (decide (s1 < 0)), .agg #[.bool neg2, m2], .int .i64 s2, .bool (decide (s2 < 0)), .bool p, .bool p, undef, undef, undef, .bool true] (by kernel_rfl) (by kernel_rfl) (by kernel_rfl) (by kernel_rfl) ?_ ?_
      ·
        refine StepsV.cons (StepV.mk fun vs V K hV hd hK => ?_) ?_
        ·
          have k00 := Gr.cell hV d00
          have k01 := Gr.cell hV d01
          have k10 := Gr.cell hV d10
          have k11 := Gr.cell hV d11
          simp only [puts, Act.put, List.setIfInBounds_toArray, List.set_cons_zero, List.set_cons_succ, List.getD_cons_zero] at hK ⊢
          have hK2 := hid hK
          clear hK
          refine ⟨rfl, ?_⟩
          go_simp
          exact hK2.out _ (Gr.refl _)
        refine StepsV.cons (StepV.mk fun vs V K hV hd hK => ?_) ?_
        ·
          have g0 := hd { on := 0, ground := .data } (by simp) rfl
          try simp only [List.getD_cons_zero] at g0
          have k00 := Gr.cell hV d00
          have k01 := Gr.cell hV d01
          have k10 := Gr.cell hV d10
          have k11 := Gr.cell hV d11
          simp only [puts, Act.put, List.setIfInBounds_toArray, List.set_cons_zero, List.set_cons_succ, List.getD_cons_zero, List.getD_cons_succ, g0] at hK ⊢
          have hK2 := hid hK
          clear hK
          refine ⟨rfl, ?_⟩
          go_simp
          refine (HSG1.out V (((HG.out.trans HG1.out).trans hV))).mono ?_
          rintro e w2 ⟨rfl, hg2⟩
          exact hK2.out _ hg2
        refine StepsV.cons (StepV.mk fun vs V K hV hd hK => ?_) ?_
        ·
          have g1 := hd { on := 1, ground := .data } (by simp) rfl
          try simp only [List.getD_cons_zero, List.getD_cons_succ] at g1
          have k00 := Gr.cell hV d00
          have k01 := Gr.cell hV d01
          have k10 := Gr.cell hV d10
          have k11 := Gr.cell hV d11
          simp only [puts, Act.put, List.setIfInBounds_toArray, List.set_cons_zero, List.set_cons_succ, List.getD_cons_zero, List.getD_cons_succ, g1] at hK ⊢
          have hK2 := hid hK
          clear hK
          refine ⟨rfl, ?_⟩
          go_simp
          exact hK2.out _ (Gr.refl _)
        refine StepsV.cons (StepV.mk fun vs V K hV hd hK => ?_) ?_
        ·
          have k00 := Gr.cell hV d00
          have k01 := Gr.cell hV d01
          have k10 := Gr.cell hV d10
          have k11 := Gr.cell hV d11
          simp only [puts, Act.put, List.setIfInBounds_toArray, List.set_cons_zero, List.set_cons_succ, List.getD_cons_zero, List.getD_cons_succ] at hK ⊢
          have hK2 := hid hK
          clear hK
          refine ⟨rfl, ?_⟩
          go_simp
          exact hK2.out _ (Gr.refl _)
        refine StepsV.cons (StepV.mk fun vs V K hV hd hK => ?_) ?_
        ·
          have g3 := hd { on := 3, ground := .data } (by simp) rfl
          try simp only [List.getD_cons_zero, List.getD_cons_succ] at g3
          have k00 := Gr.cell hV d00
          have k01 := Gr.cell hV d01
          have k10 := Gr.cell hV d10
          have k11 := Gr.cell hV d11
          simp only [puts, Act.put, List.setIfInBounds_toArray, List.set_cons_zero, List.set_cons_succ, List.getD_cons_zero, List.getD_cons_succ, g3] at hK ⊢
          have hK2 := hid hK
          clear hK
          refine ⟨rfl, ?_⟩
          go_simp
          refine (HSG2.out V (((HG.out.trans HG1.out).trans hV))).mono ?_
          rintro e w2 ⟨rfl, hg2⟩
          exact hK2.out _ hg2
        refine StepsV.cons (StepV.mk fun vs V K hV hd hK => ?_) ?_
        ·
          have g4 := hd { on := 4, ground := .data } (by simp) rfl
          try simp only [List.getD_cons_zero, List.getD_cons_succ] at g4
          have k00 := Gr.cell hV d00
          have k01 := Gr.cell hV d01
          have k10 := Gr.cell hV d10
          have k11 := Gr.cell hV d11
          simp only [puts, Act.put, List.setIfInBounds_toArray, List.set_cons_zero, List.set_cons_succ, List.getD_cons_zero, List.getD_cons_succ, g4] at hK ⊢
          have hK2 := hid hK
          clear hK
          refine ⟨rfl, ?_⟩
          go_simp
          exact hK2.out _ (Gr.refl _)
        refine StepsV.cons (StepV.mk fun vs V K hV hd hK => ?_) ?_
        ·
          have g2 := hd { on := 2, ground := .data } (by simp) rfl
          try simp only [List.getD_cons_zero, List.getD_cons_succ] at g2
          have g5 := hd { on := 5, ground := .data } (by simp) rfl
          try simp only [List.getD_cons_zero, List.getD_cons_succ] at g5
          have k00 := Gr.cell hV d00
          have k01 := Gr.cell hV d01
          have k10 := Gr.cell hV d10
          have k11 := Gr.cell hV d11
          simp only [puts, Act.put, List.setIfInBounds_toArray, List.set_cons_zero, List.set_cons_succ, List.getD_cons_zero, List.getD_cons_succ, g2, g5] at hK ⊢
          have hK2 := hid hK
          clear hK
          refine ⟨rfl, ?_⟩
          have h := hK2.out _ (Gr.refl _)
          rw [HP.out] at h
          clear hK2
          have h2 := hid h
          clear h
          go_simp
          first
            | exact h2.out
            | simpa using h2.out
        refine StepsV.cons (StepV.mk fun vs V K hV hd hK => ?_) ?_
        ·
          have g6 := hd { on := 6, ground := .data } (by simp) rfl
          try simp only [List.getD_cons_zero, List.getD_cons_succ] at g6
          have k00 := Gr.cell hV d00
          have k01 := Gr.cell hV d01
          have k10 := Gr.cell hV d10
          have k11 := Gr.cell hV d11
          simp only [puts, Act.put, List.setIfInBounds_toArray, List.set_cons_zero, List.set_cons_succ, List.getD_cons_zero, List.getD_cons_succ, g6] at hK ⊢
          have hK2 := hid hK
          clear hK
          refine ⟨rfl, ?_⟩
          go_simp
          exact hK2.out _ (Gr.refl _)
        refine StepsV.cons (StepV.skip (fun vs hd => ?_) rfl) ?_
        ·
          have g7 := hd { on := 7, ground := .guard } (by simp) rfl
          try simp only [List.getD_cons_zero, List.getD_cons_succ] at g7
          rw [HPF.out] at g7
          simp only [puts, Act.put, List.setIfInBounds_toArray, List.set_cons_zero, List.set_cons_succ, g7]
          rfl
        refine StepsV.cons (StepV.skip (fun vs hd => ?_) rfl) ?_
        ·
          have g7 := hd { on := 7, ground := .guard } (by simp) rfl
          try simp only [List.getD_cons_zero, List.getD_cons_succ] at g7
          rw [HPF.out] at g7
          simp only [puts, Act.put, List.setIfInBounds_toArray, List.set_cons_zero, List.set_cons_succ, g7]
          rfl
        refine StepsV.cons (StepV.skip (fun vs hd => ?_) rfl) ?_
        ·
          have g7 := hd { on := 7, ground := .guard } (by simp) rfl
          try simp only [List.getD_cons_zero, List.getD_cons_succ] at g7
          rw [HPF.out] at g7
          simp only [puts, Act.put, List.setIfInBounds_toArray, List.set_cons_zero, List.set_cons_succ, g7]
          rfl
        refine StepsV.cons (StepV.mk fun vs V K hV hd hK => ?_) ?_
        ·
          have g7 := hd { on := 7, ground := .data } (by simp) rfl
          try simp only [List.getD_cons_zero, List.getD_cons_succ] at g7
          have g10 := hd { on := 10, ground := .data } (by simp) rfl
          try simp only [List.getD_cons_zero, List.getD_cons_succ] at g10
          rw [HPF.out] at g7
          have k00 := Gr.cell hV d00
          have k01 := Gr.cell hV d01
          have k10 := Gr.cell hV d10
          have k11 := Gr.cell hV d11
          simp only [puts, Act.put, List.setIfInBounds_toArray, List.set_cons_zero, List.set_cons_succ, List.getD_cons_zero, List.getD_cons_succ, g7, g10] at hK ⊢
          have hK2 := hid hK
          clear hK
          refine ⟨rfl, ?_⟩
          go_simp
          exact hK2.out _ (Gr.refl _)
        exact StepsV.nil
      intro w3 hg3
      have HG3 := hid hg3
      clear hg3
      simp only [puts, Act.put, List.setIfInBounds_toArray, List.set_cons_zero, List.set_cons_succ, List.getD_cons_zero, List.getD_cons_succ]
      have f00 := Gr.cell HG3.out d00
      have f01 := Gr.cell HG3.out d01
      have f10 := Gr.cell HG3.out d10
      have f11 := Gr.cell HG3.out d11
      go_wp2
      go_region_held3 (fun V => V.cell? ⟨w.heap.size, 0, none⟩ = some (.bool neg1) ∧ V.cell? ⟨w.heap.size, 1, none⟩ = some (m1) ∧ V.cell? ⟨w.heap.size + 1, 0, none⟩ = some (.bool neg2) ∧ V.cell? ⟨w.heap.size + 1, 1, none⟩ = some (m2))
        (first
          | exact ⟨f00, f01, f10, f11⟩
          | with_reducible exact ⟨Gr.cell HG4.out f00, Gr.cell HG4.out f01, Gr.cell HG4.out f10, Gr.cell HG4.out f11⟩
          | with_reducible exact ⟨Gr.cell HG5.out f00, Gr.cell HG5.out f01, Gr.cell HG5.out f10, Gr.cell HG5.out f11⟩
          | with_reducible exact ⟨Gr.cell HG6.out f00, Gr.cell HG6.out f01, Gr.cell HG6.out f10, Gr.cell HG6.out f11⟩
          | with_reducible exact ⟨Gr.cell HG7.out f00, Gr.cell HG7.out f01, Gr.cell HG7.out f10, Gr.cell HG7.out f11⟩
          | with_reducible exact ⟨set2 (by dsimp only; omega) (Gr.cell HG7.out f00), set2 (by dsimp only; omega) (Gr.cell HG7.out f01), set2 (by dsimp only; omega) (Gr.cell HG7.out f10), set2 (by dsimp only; omega) (Gr.cell HG7.out f11)⟩
          | with_reducible exact ⟨set2 (by dsimp only; omega) (set2 (by dsimp only; omega) (Gr.cell HG7.out f00)), set2 (by dsimp only; omega) (set2 (by dsimp only; omega) (Gr.cell HG7.out f01)), set2 (by dsimp only; omega) (set2 (by dsimp only; omega) (Gr.cell HG7.out f10)), set2 (by dsimp only; omega) (set2 (by dsimp only; omega) (Gr.cell HG7.out f11))⟩)
        (first
          | (go_at_call 63; refine (HMR.out w6 _ (HU2.out.gr (HG3.out.trans HG6.out)).an).mono ?_; rintro e w7 ⟨v7, rfl, hm7, hg7⟩; obtain ⟨A7, n7, c7, rfl, hm7⟩ := hm7.form; have HVQ := hid ((HVQ0.out.gr hg7).base (b' := W.heap.size) ((HG1.out.trans HG3.out).trans HG5.out).size); have HVR := hid (hm7.base (b' := W.heap.size) ((HG1.out.trans HG3.out).trans HG6.out).size); have HGZ := hid ((HG1.out.trans HG3.out).trans (HG6.out.trans hg7)); have HG7 := hid (HG6.out.trans hg7); have d00 := (HB0.out.gr HGZ.out).c 0 rfl; have e00 := (HB0.out.gr HGZ.out).free 0; have d01 := (HB0.out.gr HGZ.out).c 1 rfl; have e01 := (HB0.out.gr HGZ.out).free 1; have f0 := (HB0.out.gr HGZ.out).lt; have d10 := (HB1.out.gr HGZ.out).c 0 rfl; have e10 := (HB1.out.gr HGZ.out).free 0; have d11 := (HB1.out.gr HGZ.out).c 1 rfl; have e11 := (HB1.out.gr HGZ.out).free 1; have f1 := (HB1.out.gr HGZ.out).lt; clear hm7 hg7)
          | (go_at_call 63; refine (HMQ.out w5 _ ((HU1.out.gr (HG3.out.trans HG5.out)).an.le (by omega))).mono ?_; rintro e w6 ⟨v6, rfl, hm6, hg6⟩; obtain ⟨A6, n6, c6, rfl, hm6⟩ := hm6.form; have HVQ0 := hid hm6; have HG6 := hid (HG5.out.trans hg6); clear hm6 hg6)
          | (go_at_call 60; refine (HSG2.out w4 (((HG.out.trans HG1.out).trans HG3.out).trans HG4.out)).mono ?_; rintro e w5 ⟨rfl, hg5⟩; have HG5 := hid (HG4.out.trans hg5); clear hg5)
          | (go_at_call 60; refine (HSG1.out _ (((HG.out.trans HG1.out).trans HG3.out).trans ((Gr.refl w3).drew))).mono ?_; rintro e w4 ⟨rfl, hg4⟩; have HG4 := hid (((Gr.refl w3).drew).trans hg4); clear hg4))
      go_wp2
      refine int2_end_b rfl rfl rfl rfl (HB0.out.gr HGZ.out) (HB1.out.gr HGZ.out) (by omega) ?_
      intro V1 V hV1 hV
      have := HS.out
      have l0 := HB0.out.lt
      have l1 := HB1.out.lt
      have a3 := ((HG.out.trans HGZ.out).ex hV1 (by omega)).ex hV (by omega)
      have q1 := ((HVQ.out.exb hV1 l0).exb hV l1).base (b' := w.heap.size) (by omega)
      have q2 := ((HVR.out.exb hV1 l0).exb hV l1).base (b' := w.heap.size) (by omega)
      exact ⟨_, _, rfl, ⟨q1, q2⟩, a3⟩
    · have hpf2 : p = false := by simpa using hpf
      have HPF := hid hpf2
      have hl : lr = 0 := by
        rcases hsame with h | h
        · exfalso
          apply hpf
          rw [hp, beq_iff_eq, decide_eq_decide]
          exact h
        · exact hlr0.2 h
      clear hlr0 hlr hp hpf hpf2 hsame
      subst hl
      go_wp2
      refine wp_region_vals [.agg #[.bool neg1, m1], .int .i64 s1, .bool (decide (s1 < 0)), .agg #[.bool neg2, m2], .int .i64 s2, .bool (decide (s2 < 0)), .bool p, .bool p, .slice A2 0 c2, .int .i64 0, .bool true, .bool true] (by kernel_rfl) (by kernel_rfl) (by kernel_rfl) (by kernel_rfl) ?_ ?_
      ·
        refine StepsV.cons (StepV.mk fun vs V K hV hd hK => ?_) ?_
        ·
          have k00 := Gr.cell hV d00
          have k01 := Gr.cell hV d01
          have k10 := Gr.cell hV d10
          have k11 := Gr.cell hV d11
          simp only [puts, Act.put, List.setIfInBounds_toArray, List.set_cons_zero, List.set_cons_succ, List.getD_cons_zero] at hK ⊢
          have hK2 := hid hK
          clear hK
          refine ⟨rfl, ?_⟩
          go_simp
          exact hK2.out _ (Gr.refl _)
        refine StepsV.cons (StepV.mk fun vs V K hV hd hK => ?_) ?_
        ·
          have g0 := hd { on := 0, ground := .data } (by simp) rfl
          try simp only [List.getD_cons_zero] at g0
          have k00 := Gr.cell hV d00
          have k01 := Gr.cell hV d01
          have k10 := Gr.cell hV d10
          have k11 := Gr.cell hV d11
          simp only [puts, Act.put, List.setIfInBounds_toArray, List.set_cons_zero, List.set_cons_succ, List.getD_cons_zero, List.getD_cons_succ, g0] at hK ⊢
          have hK2 := hid hK
          clear hK
          refine ⟨rfl, ?_⟩
          go_simp
          refine (HSG1.out V (((HG.out.trans HG1.out).trans hV))).mono ?_
          rintro e w2 ⟨rfl, hg2⟩
          exact hK2.out _ hg2
        refine StepsV.cons (StepV.mk fun vs V K hV hd hK => ?_) ?_
        ·
          have g1 := hd { on := 1, ground := .data } (by simp) rfl
          try simp only [List.getD_cons_zero, List.getD_cons_succ] at g1
          have k00 := Gr.cell hV d00
          have k01 := Gr.cell hV d01
          have k10 := Gr.cell hV d10
          have k11 := Gr.cell hV d11
          simp only [puts, Act.put, List.setIfInBounds_toArray, List.set_cons_zero, List.set_cons_succ, List.getD_cons_zero, List.getD_cons_succ, g1] at hK ⊢
          have hK2 := hid hK
          clear hK
          refine ⟨rfl, ?_⟩
          go_simp
          exact hK2.out _ (Gr.refl _)
        refine StepsV.cons (StepV.mk fun vs V K hV hd hK => ?_) ?_
        ·
          have k00 := Gr.cell hV d00
          have k01 := Gr.cell hV d01
          have k10 := Gr.cell hV d10
          have k11 := Gr.cell hV d11
          simp only [puts, Act.put, List.setIfInBounds_toArray, List.set_cons_zero, List.set_cons_succ, List.getD_cons_zero, List.getD_cons_succ] at hK ⊢
          have hK2 := hid hK
          clear hK
          refine ⟨rfl, ?_⟩
          go_simp
          exact hK2.out _ (Gr.refl _)
        refine StepsV.cons (StepV.mk fun vs V K hV hd hK => ?_) ?_
        ·
          have g3 := hd { on := 3, ground := .data } (by simp) rfl
          try simp only [List.getD_cons_zero, List.getD_cons_succ] at g3
          have k00 := Gr.cell hV d00
          have k01 := Gr.cell hV d01
          have k10 := Gr.cell hV d10
          have k11 := Gr.cell hV d11
          simp only [puts, Act.put, List.setIfInBounds_toArray, List.set_cons_zero, List.set_cons_succ, List.getD_cons_zero, List.getD_cons_succ, g3] at hK ⊢
          have hK2 := hid hK
          clear hK
          refine ⟨rfl, ?_⟩
          go_simp
          refine (HSG2.out V (((HG.out.trans HG1.out).trans hV))).mono ?_
          rintro e w2 ⟨rfl, hg2⟩
          exact hK2.out _ hg2
        refine StepsV.cons (StepV.mk fun vs V K hV hd hK => ?_) ?_
        ·
          have g4 := hd { on := 4, ground := .data } (by simp) rfl
          try simp only [List.getD_cons_zero, List.getD_cons_succ] at g4
          have k00 := Gr.cell hV d00
          have k01 := Gr.cell hV d01
          have k10 := Gr.cell hV d10
          have k11 := Gr.cell hV d11
          simp only [puts, Act.put, List.setIfInBounds_toArray, List.set_cons_zero, List.set_cons_succ, List.getD_cons_zero, List.getD_cons_succ, g4] at hK ⊢
          have hK2 := hid hK
          clear hK
          refine ⟨rfl, ?_⟩
          go_simp
          exact hK2.out _ (Gr.refl _)
        refine StepsV.cons (StepV.mk fun vs V K hV hd hK => ?_) ?_
        ·
          have g2 := hd { on := 2, ground := .data } (by simp) rfl
          try simp only [List.getD_cons_zero, List.getD_cons_succ] at g2
          have g5 := hd { on := 5, ground := .data } (by simp) rfl
          try simp only [List.getD_cons_zero, List.getD_cons_succ] at g5
          have k00 := Gr.cell hV d00
          have k01 := Gr.cell hV d01
          have k10 := Gr.cell hV d10
          have k11 := Gr.cell hV d11
          simp only [puts, Act.put, List.setIfInBounds_toArray, List.set_cons_zero, List.set_cons_succ, List.getD_cons_zero, List.getD_cons_succ, g2, g5] at hK ⊢
          have hK2 := hid hK
          clear hK
          refine ⟨rfl, ?_⟩
          have h := hK2.out _ (Gr.refl _)
          rw [HP.out] at h
          clear hK2
          have h2 := hid h
          clear h
          go_simp
          first
            | exact h2.out
            | simpa using h2.out
        refine StepsV.cons (StepV.mk fun vs V K hV hd hK => ?_) ?_
        ·
          have g6 := hd { on := 6, ground := .data } (by simp) rfl
          try simp only [List.getD_cons_zero, List.getD_cons_succ] at g6
          have k00 := Gr.cell hV d00
          have k01 := Gr.cell hV d01
          have k10 := Gr.cell hV d10
          have k11 := Gr.cell hV d11
          simp only [puts, Act.put, List.setIfInBounds_toArray, List.set_cons_zero, List.set_cons_succ, List.getD_cons_zero, List.getD_cons_succ, g6] at hK ⊢
          have hK2 := hid hK
          clear hK
          refine ⟨rfl, ?_⟩
          go_simp
          exact hK2.out _ (Gr.refl _)
        refine StepsV.cons (StepV.mk fun vs V K hV hd hK => ?_) ?_
        ·
          have g7 := hd { on := 7, ground := .guard } (by simp) rfl
          try simp only [List.getD_cons_zero, List.getD_cons_succ] at g7
          rw [HPF.out] at g7
          have k00 := Gr.cell hV d00
          have k01 := Gr.cell hV d01
          have k10 := Gr.cell hV d10
          have k11 := Gr.cell hV d11
          simp only [puts, Act.put, List.setIfInBounds_toArray, List.set_cons_zero, List.set_cons_succ, List.getD_cons_zero, List.getD_cons_succ, g7] at hK ⊢
          have hK2 := hid hK
          clear hK
          refine ⟨rfl, ?_⟩
          go_simp
          exact hK2.out _ (Gr.refl _)
        refine StepsV.cons (StepV.mk fun vs V K hV hd hK => ?_) ?_
        ·
          have g8 := hd { on := 8, ground := .data } (by simp) rfl
          try simp only [List.getD_cons_zero, List.getD_cons_succ] at g8
          have g7 := hd { on := 7, ground := .guard } (by simp) rfl
          try simp only [List.getD_cons_zero, List.getD_cons_succ] at g7
          rw [HPF.out] at g7
          have k00 := Gr.cell hV d00
          have k01 := Gr.cell hV d01
          have k10 := Gr.cell hV d10
          have k11 := Gr.cell hV d11
          simp only [puts, Act.put, List.setIfInBounds_toArray, List.set_cons_zero, List.set_cons_succ, List.getD_cons_zero, List.getD_cons_succ, g7, g8] at hK ⊢
          have hK2 := hid hK
          clear hK
          refine ⟨rfl, ?_⟩
          go_simp
          exact hK2.out _ (Gr.refl _)
        refine StepsV.cons (StepV.mk fun vs V K hV hd hK => ?_) ?_
        ·
          have g9 := hd { on := 9, ground := .data } (by simp) rfl
          try simp only [List.getD_cons_zero, List.getD_cons_succ] at g9
          have g7 := hd { on := 7, ground := .guard } (by simp) rfl
          try simp only [List.getD_cons_zero, List.getD_cons_succ] at g7
          rw [HPF.out] at g7
          have k00 := Gr.cell hV d00
          have k01 := Gr.cell hV d01
          have k10 := Gr.cell hV d10
          have k11 := Gr.cell hV d11
          simp only [puts, Act.put, List.setIfInBounds_toArray, List.set_cons_zero, List.set_cons_succ, List.getD_cons_zero, List.getD_cons_succ, g7, g9] at hK ⊢
          have hK2 := hid hK
          clear hK
          refine ⟨rfl, ?_⟩
          go_simp
          exact hK2.out _ (Gr.refl _)
        refine StepsV.cons (StepV.mk fun vs V K hV hd hK => ?_) ?_
        ·
          have g7 := hd { on := 7, ground := .data } (by simp) rfl
          try simp only [List.getD_cons_zero, List.getD_cons_succ] at g7
          have g10 := hd { on := 10, ground := .data } (by simp) rfl
          try simp only [List.getD_cons_zero, List.getD_cons_succ] at g10
          rw [HPF.out] at g7
          have k00 := Gr.cell hV d00
          have k01 := Gr.cell hV d01
          have k10 := Gr.cell hV d10
          have k11 := Gr.cell hV d11
          simp only [puts, Act.put, List.setIfInBounds_toArray, List.set_cons_zero, List.set_cons_succ, List.getD_cons_zero, List.getD_cons_succ, g7, g10] at hK ⊢
          have hK2 := hid hK
          clear hK
          refine ⟨rfl, ?_⟩
          go_simp
          exact hK2.out _ (Gr.refl _)
        exact StepsV.nil
      intro w3 hg3
      have HG3 := hid hg3
      clear hg3
      simp only [puts, Act.put, List.setIfInBounds_toArray, List.set_cons_zero, List.set_cons_succ, List.getD_cons_zero, List.getD_cons_succ]
      have f00 := Gr.cell HG3.out d00
      have f01 := Gr.cell HG3.out d01
      have f10 := Gr.cell HG3.out d10
      have f11 := Gr.cell HG3.out d11
      go_wp2
      go_region_held3 (fun V => V.cell? ⟨w.heap.size, 0, none⟩ = some (.bool neg1) ∧ V.cell? ⟨w.heap.size, 1, none⟩ = some (m1) ∧ V.cell? ⟨w.heap.size + 1, 0, none⟩ = some (.bool neg2) ∧ V.cell? ⟨w.heap.size + 1, 1, none⟩ = some (m2))
        (first
          | exact ⟨f00, f01, f10, f11⟩
          | with_reducible exact ⟨Gr.cell HG4.out f00, Gr.cell HG4.out f01, Gr.cell HG4.out f10, Gr.cell HG4.out f11⟩
          | with_reducible exact ⟨Gr.cell HG5.out f00, Gr.cell HG5.out f01, Gr.cell HG5.out f10, Gr.cell HG5.out f11⟩
          | with_reducible exact ⟨Gr.cell HG6.out f00, Gr.cell HG6.out f01, Gr.cell HG6.out f10, Gr.cell HG6.out f11⟩
          | with_reducible exact ⟨Gr.cell HG7.out f00, Gr.cell HG7.out f01, Gr.cell HG7.out f10, Gr.cell HG7.out f11⟩
          | with_reducible exact ⟨set2 (by dsimp only; omega) (Gr.cell HG7.out f00), set2 (by dsimp only; omega) (Gr.cell HG7.out f01), set2 (by dsimp only; omega) (Gr.cell HG7.out f10), set2 (by dsimp only; omega) (Gr.cell HG7.out f11)⟩
          | with_reducible exact ⟨set2 (by dsimp only; omega) (set2 (by dsimp only; omega) (Gr.cell HG7.out f00)), set2 (by dsimp only; omega) (set2 (by dsimp only; omega) (Gr.cell HG7.out f01)), set2 (by dsimp only; omega) (set2 (by dsimp only; omega) (Gr.cell HG7.out f10)), set2 (by dsimp only; omega) (set2 (by dsimp only; omega) (Gr.cell HG7.out f11))⟩)
        (first
          | (go_at_call 63; refine (HMR.out w6 _ (HU2.out.gr (HG3.out.trans HG6.out)).an).mono ?_; rintro e w7 ⟨v7, rfl, hm7, hg7⟩; obtain ⟨A7, n7, c7, rfl, hm7⟩ := hm7.form; have HVQ := hid ((HVQ0.out.gr hg7).base (b' := W.heap.size) ((HG1.out.trans HG3.out).trans HG5.out).size); have HVR := hid (hm7.base (b' := W.heap.size) ((HG1.out.trans HG3.out).trans HG6.out).size); have HGZ := hid ((HG1.out.trans HG3.out).trans (HG6.out.trans hg7)); have HG7 := hid (HG6.out.trans hg7); have d00 := (HB0.out.gr HGZ.out).c 0 rfl; have e00 := (HB0.out.gr HGZ.out).free 0; have d01 := (HB0.out.gr HGZ.out).c 1 rfl; have e01 := (HB0.out.gr HGZ.out).free 1; have f0 := (HB0.out.gr HGZ.out).lt; have d10 := (HB1.out.gr HGZ.out).c 0 rfl; have e10 := (HB1.out.gr HGZ.out).free 0; have d11 := (HB1.out.gr HGZ.out).c 1 rfl; have e11 := (HB1.out.gr HGZ.out).free 1; have f1 := (HB1.out.gr HGZ.out).lt; clear hm7 hg7)
          | (go_at_call 63; refine (HMQ.out w5 _ ((HU1.out.gr (HG3.out.trans HG5.out)).an.le (by omega))).mono ?_; rintro e w6 ⟨v6, rfl, hm6, hg6⟩; obtain ⟨A6, n6, c6, rfl, hm6⟩ := hm6.form; have HVQ0 := hid hm6; have HG6 := hid (HG5.out.trans hg6); clear hm6 hg6)
          | (go_at_call 60; refine (HSG2.out w4 (((HG.out.trans HG1.out).trans HG3.out).trans HG4.out)).mono ?_; rintro e w5 ⟨rfl, hg5⟩; have HG5 := hid (HG4.out.trans hg5); clear hg5)
          | (go_at_call 60; refine (HSG1.out _ (((HG.out.trans HG1.out).trans HG3.out).trans ((Gr.refl w3).drew))).mono ?_; rintro e w4 ⟨rfl, hg4⟩; have HG4 := hid (((Gr.refl w3).drew).trans hg4); clear hg4))
      go_wp2
      refine int2_end_b rfl rfl rfl rfl (HB0.out.gr HGZ.out) (HB1.out.gr HGZ.out) (by omega) ?_
      intro V1 V hV1 hV
      have := HS.out
      have l0 := HB0.out.lt
      have l1 := HB1.out.lt
      have a3 := ((HG.out.trans HGZ.out).ex hV1 (by omega)).ex hV (by omega)
      have q1 := ((HVQ.out.exb hV1 l0).exb hV l1).base (b' := w.heap.size) (by omega)
      have q2 := ((HVR.out.exb hV1 l0).exb hV l1).base (b' := w.heap.size) (by omega)
      exact ⟨_, _, rfl, ⟨q1, q2⟩, a3⟩
  · obtain ⟨hzq, hzr⟩ := HB.out hdiff hr0
    have HMQ : Hid (∀ (w1 : World) (v : Value), AN w1 v (q + 1) (L + 1) → Calls Tryd.prog 63 #[.bool true, v] w1 (Ret w1 fun v w' => VZ w' w1.heap.size v Q (L + 1))) := by
      intro w1 v h
      have h2 := make_c w1 true v (q + 1) (L + 1) h (by omega)
      rw [hzq.symm] at h2
      exact h2
    have HMR : Hid (∀ (w1 : World) (v : Value), AN w1 v (n2 - r) (L) → Calls Tryd.prog 63 #[.bool neg2, v] w1 (Ret w1 fun v w' => VZ w' w1.heap.size v R (L))) := by
      intro w1 v h
      have h2 := make_c w1 neg2 v (n2 - r) (L) h (by omega)
      rw [hzr.symm] at h2
      exact h2
    clear hzq hzr HA HB
    have HOF : Hid (∀ V : World, Calls Tryd.prog 28 #[.int .u64 1] V (Ret V fun v w' => VN w' V.heap.size v 1 2)) := fun V => of_c V 1 (by decide) (by decide)
    have HSB : Hid (∀ (V : World) (v : Value), AN V m2 n2 L → AN V v r L → Calls Tryd.prog 33 #[m2, v] V (RetB V true fun v w' => VN w' V.heap.size v (n2 - r) L)) := by
      intro V v a1 a2
      have h := sub_c V m2 v n2 r L a1 a2 (by omega)
      rw [decide_eq_true (show r ≤ n2 by omega)] at h
      exact h
    go_enter Tryd.func68, Tryd.ntmps68
    go_wp2_with fail
    obtain ⟨W, hW⟩ : ∃ W, W = (((w.alloc (.cells #[.bool neg1, m1] 51)).alloc (.cells #[.bool neg2, m2] 51)).alloc (.cells #[.bool false, .slice none 0 0] 51)).alloc (.cells #[.bool false, .slice none 0 0] 51) := ⟨_, rfl⟩
    obtain ⟨hg, b0, b1, b2, b3⟩ := al4 w #[.bool neg1, m1] #[.bool neg2, m2] #[.bool false, .slice none 0 0] #[.bool false, .slice none 0 0] 51 51 51 51
    rw [← hW] at hg b0 b1 b2 b3 ⊢
    clear hW
    have H1 := hid (hm1.gr hg)
    have H2 := hid (hm2.gr hg)
    have c00 : W.cell? ⟨w.heap.size, 0, none⟩ = some (.bool neg1) := b0.c 0 rfl
    have c01 : W.cell? ⟨w.heap.size, 1, none⟩ = some (m1) := b0.c 1 rfl
    have c10 : W.cell? ⟨w.heap.size + 1, 0, none⟩ = some (.bool neg2) := b1.c 0 rfl
    have c11 : W.cell? ⟨w.heap.size + 1, 1, none⟩ = some (m2) := b1.c 1 rfl
    have HB0 := hid b2
    have HB1 := hid b3
    have HG := hid hg
    have HS : Hid (w.heap.size < W.heap.size) := by have h := b3.lt; unfold Hid; omega
    clear hm1 hm2 hg b0 b1 b2 b3
    refine (HDM.out W HG.out).mono ?_
    rintro e w1 ⟨u1, u2, rfl, ⟨hvq, A2, c2, rfl, hvr⟩, hg1⟩
    have HU1 := hid hvq
    have HU2 : Hid (VN w1 W.heap.size (.slice A2 (limbs r).length c2) r L) := ⟨A2, c2, rfl, hvr⟩
    have HG1 := hid hg1
    have d00 := Gr.cell HG1.out c00
    have d01 := Gr.cell HG1.out c01
    have d10 := Gr.cell HG1.out c10
    have d11 := Gr.cell HG1.out c11
    clear hvq hvr hg1
    obtain ⟨lr, hlr⟩ : ∃ lr, lr = (limbs r).length := ⟨_, rfl⟩
    rw [← hlr] at HU2 ⊢
    have hlr0 : lr = 0 ↔ r = 0 := by
      have := limbs_lt (n := r)
      rw [hlr]
      rw [eq_iff_iff] at this
      omega
    obtain ⟨p, hp⟩ : ∃ p, p = (decide (s1 < 0) == decide (s2 < 0)) := ⟨_, rfl⟩
    have HP := hid hp
    have hpf2 : p = false := by
      rw [hp, beq_eq_false_iff_ne, Ne, decide_eq_decide]
      exact hdiff
    have HPF := hid hpf2
    have hl : ¬ lr = 0 := fun h => hr0 (hlr0.1 h)
    have HL2 : Hid (1 ≤ L ∧ 2 ≤ L + 1) := by
      have : 0 < L := by
        obtain ⟨_, _, hv, _, h, _⟩ := HU2.out
        injection hv with _ hv _
        omega
      exact ⟨by omega, by omega⟩
    have hlz : ((lr : Int) == 0) = false := by rw [beq_eq_false_iff_ne]; omega
    clear hlr0 hlr hp hpf2 hdiff hr0
    go_wp2
    refine wp_region_vals [.agg #[.bool neg1, m1], .int .i64 s1, .bool (decide (s1 < 0)), .agg #[.bool neg2, m2], .int .i64 s2, .bool (decide (s2 < 0)), .bool p, .bool p, .slice A2 lr c2, .int .i64 lr, .bool false, .bool false] (by kernel_rfl) (by kernel_rfl) (by kernel_rfl) (by kernel_rfl) ?_ ?_
    ·
      refine StepsV.cons (StepV.mk fun vs V K hV hd hK => ?_) ?_
      ·
        have k00 := Gr.cell hV d00
        have k01 := Gr.cell hV d01
        have k10 := Gr.cell hV d10
        have k11 := Gr.cell hV d11
        simp only [puts, Act.put, List.setIfInBounds_toArray, List.set_cons_zero, List.set_cons_succ, List.getD_cons_zero] at hK ⊢
        have hK2 := hid hK
        clear hK
        refine ⟨rfl, ?_⟩
        go_simp
        exact hK2.out _ (Gr.refl _)
      refine StepsV.cons (StepV.mk fun vs V K hV hd hK => ?_) ?_
      ·
        have g0 := hd { on := 0, ground := .data } (by simp) rfl
        try simp only [List.getD_cons_zero] at g0
        have k00 := Gr.cell hV d00
        have k01 := Gr.cell hV d01
        have k10 := Gr.cell hV d10
        have k11 := Gr.cell hV d11
        simp only [puts, Act.put, List.setIfInBounds_toArray, List.set_cons_zero, List.set_cons_succ, List.getD_cons_zero, List.getD_cons_succ, g0] at hK ⊢
        have hK2 := hid hK
        clear hK
        refine ⟨rfl, ?_⟩
        go_simp
        refine (HSG1.out V (((HG.out.trans HG1.out).trans hV))).mono ?_
        rintro e w2 ⟨rfl, hg2⟩
        exact hK2.out _ hg2
      refine StepsV.cons (StepV.mk fun vs V K hV hd hK => ?_) ?_
      ·
        have g1 := hd { on := 1, ground := .data } (by simp) rfl
        try simp only [List.getD_cons_zero, List.getD_cons_succ] at g1
        have k00 := Gr.cell hV d00
        have k01 := Gr.cell hV d01
        have k10 := Gr.cell hV d10
        have k11 := Gr.cell hV d11
        simp only [puts, Act.put, List.setIfInBounds_toArray, List.set_cons_zero, List.set_cons_succ, List.getD_cons_zero, List.getD_cons_succ, g1] at hK ⊢
        have hK2 := hid hK
        clear hK
        refine ⟨rfl, ?_⟩
        go_simp
        exact hK2.out _ (Gr.refl _)
      refine StepsV.cons (StepV.mk fun vs V K hV hd hK => ?_) ?_
      ·
        have k00 := Gr.cell hV d00
        have k01 := Gr.cell hV d01
        have k10 := Gr.cell hV d10
        have k11 := Gr.cell hV d11
        simp only [puts, Act.put, List.setIfInBounds_toArray, List.set_cons_zero, List.set_cons_succ, List.getD_cons_zero, List.getD_cons_succ] at hK ⊢
        have hK2 := hid hK
        clear hK
        refine ⟨rfl, ?_⟩
        go_simp
        exact hK2.out _ (Gr.refl _)
      refine StepsV.cons (StepV.mk fun vs V K hV hd hK => ?_) ?_
      ·
        have g3 := hd { on := 3, ground := .data } (by simp) rfl
        try simp only [List.getD_cons_zero, List.getD_cons_succ] at g3
        have k00 := Gr.cell hV d00
        have k01 := Gr.cell hV d01
        have k10 := Gr.cell hV d10
        have k11 := Gr.cell hV d11
        simp only [puts, Act.put, List.setIfInBounds_toArray, List.set_cons_zero, List.set_cons_succ, List.getD_cons_zero, List.getD_cons_succ, g3] at hK ⊢
        have hK2 := hid hK
        clear hK
        refine ⟨rfl, ?_⟩
        go_simp
        refine (HSG2.out V (((HG.out.trans HG1.out).trans hV))).mono ?_
        rintro e w2 ⟨rfl, hg2⟩
        exact hK2.out _ hg2
      refine StepsV.cons (StepV.mk fun vs V K hV hd hK => ?_) ?_
      ·
        have g4 := hd { on := 4, ground := .data } (by simp) rfl
        try simp only [List.getD_cons_zero, List.getD_cons_succ] at g4
        have k00 := Gr.cell hV d00
        have k01 := Gr.cell hV d01
        have k10 := Gr.cell hV d10
        have k11 := Gr.cell hV d11
        simp only [puts, Act.put, List.setIfInBounds_toArray, List.set_cons_zero, List.set_cons_succ, List.getD_cons_zero, List.getD_cons_succ, g4] at hK ⊢
        have hK2 := hid hK
        clear hK
        refine ⟨rfl, ?_⟩
        go_simp
        exact hK2.out _ (Gr.refl _)
      refine StepsV.cons (StepV.mk fun vs V K hV hd hK => ?_) ?_
      ·
        have g2 := hd { on := 2, ground := .data } (by simp) rfl
        try simp only [List.getD_cons_zero, List.getD_cons_succ] at g2
        have g5 := hd { on := 5, ground := .data } (by simp) rfl
        try simp only [List.getD_cons_zero, List.getD_cons_succ] at g5
        have k00 := Gr.cell hV d00
        have k01 := Gr.cell hV d01
        have k10 := Gr.cell hV d10
        have k11 := Gr.cell hV d11
        simp only [puts, Act.put, List.setIfInBounds_toArray, List.set_cons_zero, List.set_cons_succ, List.getD_cons_zero, List.getD_cons_succ, g2, g5] at hK ⊢
        have hK2 := hid hK
        clear hK
        refine ⟨rfl, ?_⟩
        have h := hK2.out _ (Gr.refl _)
        rw [HP.out] at h
        clear hK2
        have h2 := hid h
        clear h
        go_simp
        first
          | exact h2.out
          | simpa using h2.out
      refine StepsV.cons (StepV.mk fun vs V K hV hd hK => ?_) ?_
      ·
        have g6 := hd { on := 6, ground := .data } (by simp) rfl
        try simp only [List.getD_cons_zero, List.getD_cons_succ] at g6
        have k00 := Gr.cell hV d00
        have k01 := Gr.cell hV d01
        have k10 := Gr.cell hV d10
        have k11 := Gr.cell hV d11
        simp only [puts, Act.put, List.setIfInBounds_toArray, List.set_cons_zero, List.set_cons_succ, List.getD_cons_zero, List.getD_cons_succ, g6] at hK ⊢
        have hK2 := hid hK
        clear hK
        refine ⟨rfl, ?_⟩
        go_simp
        exact hK2.out _ (Gr.refl _)
      refine StepsV.cons (StepV.mk fun vs V K hV hd hK => ?_) ?_
      ·
        have g7 := hd { on := 7, ground := .guard } (by simp) rfl
        try simp only [List.getD_cons_zero, List.getD_cons_succ] at g7
        rw [HPF.out] at g7
        have k00 := Gr.cell hV d00
        have k01 := Gr.cell hV d01
        have k10 := Gr.cell hV d10
        have k11 := Gr.cell hV d11
        simp only [puts, Act.put, List.setIfInBounds_toArray, List.set_cons_zero, List.set_cons_succ, List.getD_cons_zero, List.getD_cons_succ, g7] at hK ⊢
        have hK2 := hid hK
        clear hK
        refine ⟨rfl, ?_⟩
        go_simp
        exact hK2.out _ (Gr.refl _)
      refine StepsV.cons (StepV.mk fun vs V K hV hd hK => ?_) ?_
      ·
        have g8 := hd { on := 8, ground := .data } (by simp) rfl
        try simp only [List.getD_cons_zero, List.getD_cons_succ] at g8
        have g7 := hd { on := 7, ground := .guard } (by simp) rfl
        try simp only [List.getD_cons_zero, List.getD_cons_succ] at g7
        rw [HPF.out] at g7
        have k00 := Gr.cell hV d00
        have k01 := Gr.cell hV d01
        have k10 := Gr.cell hV d10
        have k11 := Gr.cell hV d11
        simp only [puts, Act.put, List.setIfInBounds_toArray, List.set_cons_zero, List.set_cons_succ, List.getD_cons_zero, List.getD_cons_succ, g7, g8] at hK ⊢
        have hK2 := hid hK
        clear hK
        refine ⟨rfl, ?_⟩
        go_simp
        exact hK2.out _ (Gr.refl _)
      refine StepsV.cons (StepV.mk fun vs V K hV hd hK => ?_) ?_
      ·
        have g9 := hd { on := 9, ground := .data } (by simp) rfl
        try simp only [List.getD_cons_zero, List.getD_cons_succ] at g9
        have g7 := hd { on := 7, ground := .guard } (by simp) rfl
        try simp only [List.getD_cons_zero, List.getD_cons_succ] at g7
        rw [HPF.out] at g7
        have k00 := Gr.cell hV d00
        have k01 := Gr.cell hV d01
        have k10 := Gr.cell hV d10
        have k11 := Gr.cell hV d11
        simp only [puts, Act.put, List.setIfInBounds_toArray, List.set_cons_zero, List.set_cons_succ, List.getD_cons_zero, List.getD_cons_succ, g7, g9] at hK ⊢
        have hK2 := hid hK
        clear hK
        refine ⟨rfl, ?_⟩
        go_simp
        exact hK2.out _ (Gr.refl _)
      refine StepsV.cons (StepV.mk fun vs V K hV hd hK => ?_) ?_
      ·
        have g7 := hd { on := 7, ground := .data } (by simp) rfl
        try simp only [List.getD_cons_zero, List.getD_cons_succ] at g7
        have g10 := hd { on := 10, ground := .data } (by simp) rfl
        try simp only [List.getD_cons_zero, List.getD_cons_succ] at g10
        rw [HPF.out] at g7
        have k00 := Gr.cell hV d00
        have k01 := Gr.cell hV d01
        have k10 := Gr.cell hV d10
        have k11 := Gr.cell hV d11
        simp only [puts, Act.put, List.setIfInBounds_toArray, List.set_cons_zero, List.set_cons_succ, List.getD_cons_zero, List.getD_cons_succ, g7, g10] at hK ⊢
        have hK2 := hid hK
        clear hK
        refine ⟨rfl, ?_⟩
        go_simp
        exact hK2.out _ (Gr.refl _)
      exact StepsV.nil
    intro w3 hg3
    have HG3 := hid hg3
    clear hg3
    simp only [puts, Act.put, List.setIfInBounds_toArray, List.set_cons_zero, List.set_cons_succ, List.getD_cons_zero, List.getD_cons_succ]
    have f00 := Gr.cell HG3.out d00
    have f01 := Gr.cell HG3.out d01
    have f10 := Gr.cell HG3.out d10
    have f11 := Gr.cell HG3.out d11
    go_wp2_with fail
    refine (HSB.out w3 _ (((H2.out.gr HG1.out).gr HG3.out).le (by omega)) (HU2.out.gr HG3.out).an).mono ?_
    rintro e w4 ⟨v4, rfl, hv4, hg4⟩
    have HV4 := hid hv4
    have HG4 := hid hg4
    have g00 := Gr.cell HG4.out f00
    have g01 := Gr.cell HG4.out f01
    have g10 := Gr.cell HG4.out f10
    have g11 := Gr.cell HG4.out f11
    clear hv4 hg4
    go_wp2
    go_region_held3 (fun V => V.cell? ⟨w.heap.size + 1, 0, none⟩ = some (.bool neg2))
      (first
        | exact g10
        | with_reducible exact Gr.cell HG5.out g10
        | with_reducible exact Gr.cell HG6.out g10
        | with_reducible exact Gr.cell HG7.out g10
        | with_reducible exact Gr.cell HG8.out g10
        | with_reducible exact set2 (by dsimp only; omega) (Gr.cell HG8.out g10)
        | with_reducible exact set2 (by dsimp only; omega) (set2 (by dsimp only; omega) (Gr.cell HG8.out g10)))
      (first
        | (go_at_call 63; refine (HMR.out w7 v4 (HV4.out.gr HG7.out).an).mono ?_; rintro e w8 ⟨v8, rfl, hm8, hg8⟩; obtain ⟨A8, n8, c8, rfl, hm8⟩ := hm8.form; have HVQ := hid ((HVQ0.out.gr hg8).base (b' := W.heap.size) ((HG1.out.trans HG3.out).trans (HG4.out.trans HG6.out)).size); have HVR := hid (hm8.base (b' := W.heap.size) ((HG1.out.trans HG3.out).trans (HG4.out.trans HG7.out)).size); have HGZ := hid ((HG1.out.trans HG3.out).trans (HG4.out.trans (HG7.out.trans hg8))); have HG8 := hid (HG7.out.trans hg8); have d00 := (HB0.out.gr HGZ.out).c 0 rfl; have e00 := (HB0.out.gr HGZ.out).free 0; have d01 := (HB0.out.gr HGZ.out).c 1 rfl; have e01 := (HB0.out.gr HGZ.out).free 1; have f0 := (HB0.out.gr HGZ.out).lt; have d10 := (HB1.out.gr HGZ.out).c 0 rfl; have e10 := (HB1.out.gr HGZ.out).free 0; have d11 := (HB1.out.gr HGZ.out).c 1 rfl; have e11 := (HB1.out.gr HGZ.out).free 1; have f1 := (HB1.out.gr HGZ.out).lt; clear hm8 hg8)
        | (go_at_call 63; refine (HMQ.out w6 v6 HV6.out.an).mono ?_; rintro e w7 ⟨v7, rfl, hm7, hg7⟩; obtain ⟨A7, n7, c7, rfl, hm7⟩ := hm7.form; have HVQ0 := hid hm7; have HG7 := hid (HG6.out.trans hg7); clear hm7 hg7)
        | (go_at_call 35; refine (add_c w5 _ v5 q 1 L ((HU1.out.gr (HG3.out.trans (HG4.out.trans HG5.out))).an) HV5.out.an (by omega)).mono ?_; rintro e w6 ⟨v6, rfl, hv6, hg6⟩; have HV6 := hid hv6; have HG6 := hid (HG5.out.trans hg6); clear hv6 hg6)
        | (go_at_call 28; refine (HOF.out _).mono ?_; rintro e w5 ⟨v5, rfl, hv5, hg5⟩; have HV5 := hid (hv5.one HL2.out.1); have HG5 := hid (((Gr.refl w4).drew).trans hg5); clear hv5 hg5))
    go_wp2
    refine int2_end_b rfl rfl rfl rfl (HB0.out.gr HGZ.out) (HB1.out.gr HGZ.out) (by omega) ?_
    intro V1 V hV1 hV
    have := HS.out
    have l0 := HB0.out.lt
    have l1 := HB1.out.lt
    have a3 := ((HG.out.trans HGZ.out).ex hV1 (by omega)).ex hV (by omega)
    have q1 := ((HVQ.out.exb hV1 l0).exb hV l1).base (b' := w.heap.size) (by omega)
    have q2 := ((HVR.out.exb hV1 l0).exb hV l1).base (b' := w.heap.size) (by omega)
    exact ⟨_, _, rfl, ⟨q1, q2⟩, a3⟩
end Go.Proofs.YtkbgdiejjabdmaaDoor
