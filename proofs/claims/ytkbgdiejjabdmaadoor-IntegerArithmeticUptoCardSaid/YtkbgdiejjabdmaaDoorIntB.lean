/- The walks of integer.Cmp, Add, Sub, Of, as integers. -/
import Derived.Test.YtkbgdiejjabdmaaDoorIntA
namespace Go.Proofs.YtkbgdiejjabdmaaDoor
open Go.RowKit

def cmpZ (x y : Int) : Int := if x < y then -1 else if y < x then 1 else 0
theorem sign_of (b : Bool) (n : Nat) : (sgnd b n).sign = if n = 0 then 0 else if b then -1 else 1 := by
  unfold sgnd
  by_cases h : n = 0
  · subst h; cases b <;> rfl
  · rw [if_neg h]
    cases b with
    | true => simp only [if_true]; exact Int.sign_eq_neg_one_of_neg (by omega)
    | false => simp only [Bool.false_eq_true, if_false]; exact Int.sign_eq_one_of_pos (by omega)
theorem cmp_signs (b1 b2 : Bool) (n1 n2 : Nat) (s1 s2 : Int) (h1 : s1 = (sgnd b1 n1).sign) (h2 : s2 = (sgnd b2 n2).sign) :
    (s1 < s2 → cmpZ (sgnd b1 n1) (sgnd b2 n2) = -1) ∧ (s2 < s1 → cmpZ (sgnd b1 n1) (sgnd b2 n2) = 1) ∧ (s1 = s2 → s1 < 0 → cmpZ (sgnd b1 n1) (sgnd b2 n2) = cmpN n2 n1) ∧ (s1 = s2 → ¬ s1 < 0 → cmpZ (sgnd b1 n1) (sgnd b2 n2) = cmpN n1 n2) := by
  rw [sign_of] at h1 h2
  unfold cmpZ cmpN sgnd
  by_cases e1 : n1 = 0 <;> by_cases e2 : n2 = 0 <;> cases b1 <;> cases b2 <;> simp [e1, e2] at h1 h2 ⊢ <;> subst h1 <;> subst h2 <;> simp <;> (try omega) <;> (try (split <;> (try omega) <;> (try (split <;> omega)))) 

set_option maxHeartbeats 4000000 in
theorem zcmp_c (w : World) (v1 v2 : Value) (x y : Int) (L K : Nat) (h1 : AZ w v1 x L) (h2 : AZ w v2 y K) (hL : L ≤ 274877906944) (hK : K ≤ 274877906944) :
    Calls Tryd.prog 71 #[v1, v2] w (Is w (.int .i64 (cmpZ x y))) := by
  obtain ⟨neg1, m1, n1, rfl, hm1, hx⟩ := h1
  obtain ⟨neg2, m2, n2, rfl, hm2, hy⟩ := h2
  obtain ⟨s1, hs1⟩ : ∃ s, s = x.sign := ⟨_, rfl⟩
  obtain ⟨s2, hs2⟩ : ∃ s, s = y.sign := ⟨_, rfl⟩
  have HSG1 : Hid (∀ V, Gr w V → Calls Tryd.prog 60 #[.agg #[.bool neg1, m1]] V (Is V (.int .i64 s1))) := fun V hV => by
    have h := sign_c V _ x L (AZ.gr ⟨neg1, m1, n1, rfl, hm1, hx⟩ hV) (by omega)
    rw [← hs1] at h
    exact h
  have HSG2 : Hid (∀ V, Gr w V → Calls Tryd.prog 60 #[.agg #[.bool neg2, m2]] V (Is V (.int .i64 s2))) := fun V hV => by
    have h := sign_c V _ y K (AZ.gr ⟨neg2, m2, n2, rfl, hm2, hy⟩ hV) (by omega)
    rw [← hs2] at h
    exact h
  obtain ⟨p1, p2, p3, p4⟩ := cmp_signs neg1 neg2 n1 n2 s1 s2 (by rw [hs1, hx]; rfl) (by rw [hs2, hy]; rfl)
  have e1 : sgnd neg1 n1 = x := hx.symm
  have e2 : sgnd neg2 n2 = y := hy.symm
  rw [e1, e2] at p1 p2 p3 p4
  obtain ⟨r, hr⟩ : ∃ r, r = cmpZ x y := ⟨_, rfl⟩
  rw [← hr] at p1 p2 p3 p4 ⊢
  have P1 := hid p1
  have P2 := hid p2
  have P3 := hid p3
  have P4 := hid p4
  clear p1 p2 p3 p4 hr e1 e2 hs1 hs2 hx hy
  go_enter Tryd.func71, Tryd.ntmps71
  go_wp2
  obtain ⟨W, hW⟩ : ∃ W, W = (w.alloc (.cells #[.bool neg1, m1] 51)).alloc (.cells #[.bool neg2, m2] 51) := ⟨_, rfl⟩
  obtain ⟨hg, b0, b1⟩ := al2 w #[.bool neg1, m1] #[.bool neg2, m2] 51 51
  rw [← hW] at hg b0 b1 ⊢
  clear hW
  have H1 := hid (hm1.gr hg)
  have H2 := hid (hm2.gr hg)
  have c00 : W.cell? ⟨w.heap.size, 0, none⟩ = some (.bool neg1) := b0.c 0 rfl
  have c01 : W.cell? ⟨w.heap.size, 1, none⟩ = some (m1) := b0.c 1 rfl
  have c10 : W.cell? ⟨w.heap.size + 1, 0, none⟩ = some (.bool neg2) := b1.c 0 rfl
  have c11 : W.cell? ⟨w.heap.size + 1, 1, none⟩ = some (m2) := b1.c 1 rfl
  have HG := hid hg
  have HS : Hid (w.heap.size < W.heap.size) := by have h := b1.lt; unfold Hid; omega
  clear hm1 hm2 hg b0 b1
  go_region_held3 (fun V => V.cell? ⟨w.heap.size, 0, none⟩ = some (.bool neg1) ∧ V.cell? ⟨w.heap.size, 1, none⟩ = some (m1) ∧ V.cell? ⟨w.heap.size + 1, 0, none⟩ = some (.bool neg2) ∧ V.cell? ⟨w.heap.size + 1, 1, none⟩ = some (m2))
    (first
      | exact ⟨c00, c01, c10, c11⟩
      | with_reducible exact ⟨Gr.cell HG1.out c00, Gr.cell HG1.out c01, Gr.cell HG1.out c10, Gr.cell HG1.out c11⟩
      | with_reducible exact ⟨Gr.cell HG2.out c00, Gr.cell HG2.out c01, Gr.cell HG2.out c10, Gr.cell HG2.out c11⟩)
    (first
      | (go_at_call 60; refine (HSG2.out w1 (HG.out.trans HG1.out)).mono ?_; rintro e w2 ⟨rfl, hg2⟩; have HG2 := hid (HG1.out.trans hg2); clear hg2)
      | (go_at_call 60; refine (HSG1.out _ (HG.out.trans ((Gr.refl W).drew))).mono ?_; rintro e w1 ⟨rfl, hg1⟩; have HG1 := hid (((Gr.refl W).drew).trans hg1); clear hg1))
  have d01 := Gr.cell HG2.out c01
  have d11 := Gr.cell HG2.out c11
  by_cases h1 : s1 < s2
  · have hr : r = -1 := P1.out h1
    have HR := hid hr
    clear hr
    go_wp2
    go_ret
    exact ⟨by rw [HR.out]; rfl, HG.out.trans HG2.out⟩
  by_cases h2 : s2 < s1
  · have hr : r = 1 := P2.out h2
    have HR := hid hr
    clear hr
    go_wp2
    go_ret
    exact ⟨by rw [HR.out]; rfl, HG.out.trans HG2.out⟩
  have h3 : s1 = s2 := by omega
  have h4 : ¬ s2 < s1 := by omega
  by_cases h5 : s1 < 0
  · have hr : r = cmpN n2 n1 := P3.out h3 h5
    have HR := hid hr
    clear hr h3
    go_wp2_with fail
    refine (cmp_c w2 m2 m1 n2 n1 (max L K) ((H2.out.gr HG2.out).le (by omega)) ((H1.out.gr HG2.out).le (by omega)) (by omega)).mono ?_
    rintro e w3 ⟨rfl, hg3⟩
    have HG3 := hid hg3
    clear hg3
    go_wp2
    go_ret
    exact ⟨by rw [HR.out]; rfl, (HG.out.trans HG2.out).trans HG3.out⟩
  · have hr : r = cmpN n1 n2 := P4.out h3 (by omega)
    have HR := hid hr
    clear hr h3
    go_wp2_with fail
    refine (cmp_c w2 m1 m2 n1 n2 (max L K) ((H1.out.gr HG2.out).le (by omega)) ((H2.out.gr HG2.out).le (by omega)) (by omega)).mono ?_
    rintro e w3 ⟨rfl, hg3⟩
    have HG3 := hid hg3
    clear hg3
    go_wp2
    go_ret
    exact ⟨by rw [HR.out]; rfl, (HG.out.trans HG2.out).trans HG3.out⟩

set_option maxHeartbeats 4000000 in
theorem zadd_c (w : World) (v1 v2 : Value) (x y : Int) (L : Nat) (h1 : AZ w v1 x L) (h2 : AZ w v2 y L) (hL : L ≤ 274877906944) :
    Calls Tryd.prog 69 #[v1, v2] w (Ret w fun v w' => VZ w' w.heap.size v (x + y) (L + 1)) := by
  obtain ⟨neg1, m1, n1, rfl, hm1, hx⟩ := h1
  obtain ⟨neg2, m2, n2, rfl, hm2, hy⟩ := h2
  obtain ⟨z, hz⟩ : ∃ z, z = x + y := ⟨_, rfl⟩
  rw [← hz]
  by_cases hnn : neg1 = neg2
  · subst hnn
    have hz1 : sgnd neg1 (n1 + n2) = z := by rw [hz, hx, hy]; unfold sgnd; cases neg1 <;> simp <;> omega
    have HMK : Hid (∀ (w1 : World) (v : Value), AN w1 v (n1 + n2) (L + 1) → Calls Tryd.prog 63 #[.bool neg1, v] w1 (Ret w1 fun v w' => VZ w' w1.heap.size v z (L + 1))) := by
      intro w1 v h
      have h2 := make_c w1 neg1 v (n1 + n2) (L + 1) h (by omega)
      rw [hz1] at h2
      exact h2
    clear hz hx hy hz1
    go_enter Tryd.func69, Tryd.ntmps69
    go_wp2
    obtain ⟨W, hW⟩ : ∃ W, W = ((w.alloc (.cells #[.bool neg1, m1] 51)).alloc (.cells #[.bool neg1, m2] 51)).alloc (.cells #[.bool false, .slice none 0 0] 51) := ⟨_, rfl⟩
    obtain ⟨hg, b0, b1, b2⟩ := al3 w #[.bool neg1, m1] #[.bool neg1, m2] #[.bool false, .slice none 0 0] 51 51 51
    rw [← hW] at hg b0 b1 b2 ⊢
    clear hW
    have H1 := hid (hm1.gr hg)
    have H2 := hid (hm2.gr hg)
    have c00 : W.cell? ⟨w.heap.size, 0, none⟩ = some (.bool neg1) := b0.c 0 rfl
    have c01 : W.cell? ⟨w.heap.size, 1, none⟩ = some (m1) := b0.c 1 rfl
    have c10 : W.cell? ⟨w.heap.size + 1, 0, none⟩ = some (.bool neg1) := b1.c 0 rfl
    have c11 : W.cell? ⟨w.heap.size + 1, 1, none⟩ = some (m2) := b1.c 1 rfl
    have HB0 := hid b2
    have HG := hid hg
    have HS : Hid (w.heap.size < W.heap.size) := by have h := b2.lt; unfold Hid; omega
    clear hm1 hm2 hg b0 b1 b2
    go_region_held3 (fun V => V.cell? ⟨w.heap.size, 0, none⟩ = some (.bool neg1) ∧ V.cell? ⟨w.heap.size, 1, none⟩ = some (m1) ∧ V.cell? ⟨w.heap.size + 1, 1, none⟩ = some (m2))
      (first
        | exact ⟨c00, c01, c11⟩
        | with_reducible exact ⟨Gr.cell HG1.out c00, Gr.cell HG1.out c01, Gr.cell HG1.out c11⟩
        | with_reducible exact ⟨Gr.cell HG2.out c00, Gr.cell HG2.out c01, Gr.cell HG2.out c11⟩
        | with_reducible exact ⟨set2 (by dsimp only; omega) (Gr.cell HG2.out c00), set2 (by dsimp only; omega) (Gr.cell HG2.out c01), set2 (by dsimp only; omega) (Gr.cell HG2.out c11)⟩)
      (first
        | (go_at_call 63; refine (HMK.out w1 v HV1.out.an).mono ?_; rintro e w2 ⟨v2, rfl, hm, hg2⟩; obtain ⟨A, n, c, rfl, hm⟩ := hm.form; have HVZ := hid (hm.base (b' := W.heap.size) HG1.out.size); have HG2 := hid (HG1.out.trans hg2); have rc00 := (HB0.out.gr HG2.out).c 0 rfl; have rf00 := (HB0.out.gr HG2.out).free 0; have rc01 := (HB0.out.gr HG2.out).c 1 rfl; have rf01 := (HB0.out.gr HG2.out).free 1; have rl0 := (HB0.out.gr HG2.out).lt; clear hm hg2)
        | (go_at_call 35; refine (add_c _ m1 m2 n1 n2 L (H1.out.gr ((Gr.refl W).drew)) (H2.out.gr ((Gr.refl W).drew)) (by omega)).mono ?_; rintro e w1 ⟨v, rfl, hv, hg1⟩; have HV1 := hid hv; have HG1 := hid (((Gr.refl W).drew).trans hg1); clear hv hg1))
    go_wp2
    refine int_end rfl rfl rfl (HB0.out.gr HG2.out) ?_
    intro V hV
    have := HS.out
    have a1 := HVZ.out.exb hV HB0.out.lt
    have a2 := HB0.out.lt
    have a3 := (HG.out.trans HG2.out).ex hV (by omega)
    have a4 := a1.base (b' := w.heap.size) (by omega)
    exact ⟨_, rfl, a4, a3⟩
  · have hne : neg2 = !neg1 := by cases neg1 <;> cases neg2 <;> simp_all
    subst hne
    clear hnn
    by_cases hle : n2 ≤ n1
    · have hz1 : sgnd neg1 (n1 - n2) = z := by rw [hz, hx, hy]; unfold sgnd; cases neg1 <;> simp <;> omega
      have hok : decide (n2 ≤ n1) = true := decide_eq_true hle
      have HMK : Hid (∀ (w1 : World) (v : Value), AN w1 v (n1 - n2) (L + 1) → Calls Tryd.prog 63 #[.bool neg1, v] w1 (Ret w1 fun v w' => VZ w' w1.heap.size v z (L + 1))) := by
        intro w1 v h
        have h2 := make_c w1 neg1 v (n1 - n2) (L + 1) h (by omega)
        rw [hz1] at h2
        exact h2
      have HSB : Hid (∀ V : World, AN V m1 n1 L → AN V m2 n2 L → Calls Tryd.prog 33 #[m1, m2] V (RetB V true fun v w' => VN w' V.heap.size v (n1 - n2) L)) := by
        intro V a1 a2
        have h := sub_c V m1 m2 n1 n2 L a1 a2 (by omega)
        rw [hok] at h
        exact h
      clear hz hx hy hz1 hok
      go_enter Tryd.func69, Tryd.ntmps69
      go_wp2_with fail
      obtain ⟨W, hW⟩ : ∃ W, W = ((w.alloc (.cells #[.bool neg1, m1] 51)).alloc (.cells #[.bool !neg1, m2] 51)).alloc (.cells #[.bool false, .slice none 0 0] 51) := ⟨_, rfl⟩
      obtain ⟨hg, b0, b1, b2⟩ := al3 w #[.bool neg1, m1] #[.bool !neg1, m2] #[.bool false, .slice none 0 0] 51 51 51
      rw [← hW] at hg b0 b1 b2 ⊢
      clear hW
      have H1 := hid (hm1.gr hg)
      have H2 := hid (hm2.gr hg)
      have c00 : W.cell? ⟨w.heap.size, 0, none⟩ = some (.bool neg1) := b0.c 0 rfl
      have c01 : W.cell? ⟨w.heap.size, 1, none⟩ = some (m1) := b0.c 1 rfl
      have c10 : W.cell? ⟨w.heap.size + 1, 0, none⟩ = some (.bool !neg1) := b1.c 0 rfl
      have c11 : W.cell? ⟨w.heap.size + 1, 1, none⟩ = some (m2) := b1.c 1 rfl
      have HB0 := hid b2
      have HG := hid hg
      have HS : Hid (w.heap.size < W.heap.size) := by have h := b2.lt; unfold Hid; omega
      clear hm1 hm2 hg b0 b1 b2
      refine (HSB.out W H1.out H2.out).mono ?_
      rintro e w1 ⟨v, rfl, hv, hg1⟩
      have HV1 := hid hv
      have HG1 := hid hg1
      have d00 := Gr.cell HG1.out c00
      clear hv hg1
      go_wp2_with fail
      refine (HMK.out w1 v (HV1.out.an.le (by omega))).mono ?_
      rintro e w2 ⟨v2, rfl, hm, hg2⟩
      obtain ⟨A, n, c, rfl, hm⟩ := hm.form
      have HVZ := hid (hm.base (b' := W.heap.size) HG1.out.size)
      have HG2 := hid (HG1.out.trans hg2)
      have rc00 := (HB0.out.gr HG2.out).c 0 rfl
      have rf00 := (HB0.out.gr HG2.out).free 0
      have rc01 := (HB0.out.gr HG2.out).c 1 rfl
      have rf01 := (HB0.out.gr HG2.out).free 1
      have rl0 := (HB0.out.gr HG2.out).lt
      clear hm hg2
      go_wp2
      refine int_end rfl rfl rfl (HB0.out.gr HG2.out) ?_
      intro V hV
      have := HS.out
      have a1 := HVZ.out.exb hV HB0.out.lt
      have a2 := HB0.out.lt
      have a3 := (HG.out.trans HG2.out).ex hV (by omega)
      have a4 := a1.base (b' := w.heap.size) (by omega)
      exact ⟨_, rfl, a4, a3⟩
    · have hz1 : sgnd (!neg1) (n2 - n1) = z := by rw [hz, hx, hy]; unfold sgnd; cases neg1 <;> simp <;> omega
      have hok : decide (n2 ≤ n1) = false := decide_eq_false hle
      have hok2 : decide (n1 ≤ n2) = true := decide_eq_true (by omega)
      have HMK : Hid (∀ (w1 : World) (v : Value), AN w1 v (n2 - n1) (L + 1) → Calls Tryd.prog 63 #[.bool (!neg1), v] w1 (Ret w1 fun v w' => VZ w' w1.heap.size v z (L + 1))) := by
        intro w1 v h
        have h2 := make_c w1 (!neg1) v (n2 - n1) (L + 1) h (by omega)
        rw [hz1] at h2
        exact h2
      have HSB : Hid (∀ V : World, AN V m1 n1 L → AN V m2 n2 L → Calls Tryd.prog 33 #[m1, m2] V (RetB V false fun v w' => VN w' V.heap.size v (n1 - n2) L)) := by
        intro V a1 a2
        have h := sub_c V m1 m2 n1 n2 L a1 a2 (by omega)
        rw [hok] at h
        exact h
      have HSB2 : Hid (∀ V : World, AN V m1 n1 L → AN V m2 n2 L → Calls Tryd.prog 33 #[m2, m1] V (RetB V true fun v w' => VN w' V.heap.size v (n2 - n1) L)) := by
        intro V a1 a2
        have h := sub_c V m2 m1 n2 n1 L a2 a1 (by omega)
        rw [hok2] at h
        exact h
      clear hz hx hy hz1 hok hok2
      go_enter Tryd.func69, Tryd.ntmps69
      go_wp2_with fail
      obtain ⟨W, hW⟩ : ∃ W, W = ((w.alloc (.cells #[.bool neg1, m1] 51)).alloc (.cells #[.bool !neg1, m2] 51)).alloc (.cells #[.bool false, .slice none 0 0] 51) := ⟨_, rfl⟩
      obtain ⟨hg, b0, b1, b2⟩ := al3 w #[.bool neg1, m1] #[.bool !neg1, m2] #[.bool false, .slice none 0 0] 51 51 51
      rw [← hW] at hg b0 b1 b2 ⊢
      clear hW
      have H1 := hid (hm1.gr hg)
      have H2 := hid (hm2.gr hg)
      have c00 : W.cell? ⟨w.heap.size, 0, none⟩ = some (.bool neg1) := b0.c 0 rfl
      have c01 : W.cell? ⟨w.heap.size, 1, none⟩ = some (m1) := b0.c 1 rfl
      have c10 : W.cell? ⟨w.heap.size + 1, 0, none⟩ = some (.bool !neg1) := b1.c 0 rfl
      have c11 : W.cell? ⟨w.heap.size + 1, 1, none⟩ = some (m2) := b1.c 1 rfl
      have HB0 := hid b2
      have HG := hid hg
      have HS : Hid (w.heap.size < W.heap.size) := by have h := b2.lt; unfold Hid; omega
      clear hm1 hm2 hg b0 b1 b2
      refine (HSB.out W H1.out H2.out).mono ?_
      rintro e w0 ⟨u0, rfl, _, hg0⟩
      have HG0 := hid hg0
      have d01 := Gr.cell HG0.out c01
      have d11 := Gr.cell HG0.out c11
      clear hg0
      go_wp2_with fail
      refine (HSB2.out w0 (H1.out.gr HG0.out) (H2.out.gr HG0.out)).mono ?_
      rintro e w1 ⟨v, rfl, hv, hg1⟩
      have HV1 := hid hv
      have HG1 := hid (HG0.out.trans hg1)
      have d10 := Gr.cell HG1.out c10
      clear hv hg1
      go_wp2_with fail
      refine (HMK.out w1 v (HV1.out.an.le (by omega))).mono ?_
      rintro e w2 ⟨v2, rfl, hm, hg2⟩
      obtain ⟨A, n, c, rfl, hm⟩ := hm.form
      have HVZ := hid (hm.base (b' := W.heap.size) HG1.out.size)
      have HG2 := hid (HG1.out.trans hg2)
      have rc00 := (HB0.out.gr HG2.out).c 0 rfl
      have rf00 := (HB0.out.gr HG2.out).free 0
      have rc01 := (HB0.out.gr HG2.out).c 1 rfl
      have rf01 := (HB0.out.gr HG2.out).free 1
      have rl0 := (HB0.out.gr HG2.out).lt
      clear hm hg2
      go_wp2
      refine int_end rfl rfl rfl (HB0.out.gr HG2.out) ?_
      intro V hV
      have := HS.out
      have a1 := HVZ.out.exb hV HB0.out.lt
      have a2 := HB0.out.lt
      have a3 := (HG.out.trans HG2.out).ex hV (by omega)
      have a4 := a1.base (b' := w.heap.size) (by omega)
      exact ⟨_, rfl, a4, a3⟩

set_option maxHeartbeats 4000000 in
theorem zsub_c (w : World) (v1 v2 : Value) (x y : Int) (L : Nat) (h1 : AZ w v1 x L) (h2 : AZ w v2 y L) (hL : L ≤ 274877906944) :
    Calls Tryd.prog 74 #[v1, v2] w (Ret w fun v w' => VZ w' w.heap.size v (x - y) (L + 1)) := by
  have HA1 := hid h1
  have HA2 := hid h2
  obtain ⟨neg1, m1, n1, rfl, hm1, hx⟩ := h1
  obtain ⟨neg2, m2, n2, rfl, hm2, hy⟩ := h2
  obtain ⟨z, hz⟩ : ∃ z, z = x - y := ⟨_, rfl⟩
  rw [← hz]
  have HNG : Hid (∀ V, Gr w V → Calls Tryd.prog 66 #[.agg #[.bool neg2, m2]] V (Ret V fun v w' => VZ w' V.heap.size v (-y) L)) := fun V hV => zneg_c V _ y L (HA2.out.gr hV) hL
  have HAD : Hid (∀ V v, Gr w V → AZ V v (-y) L → Calls Tryd.prog 69 #[.agg #[.bool neg1, m1], v] V (Ret V fun v w' => VZ w' V.heap.size v z (L + 1))) := fun V v hV hv => by
    have h := zadd_c V _ v x (-y) L (HA1.out.gr hV) hv hL
    rw [show x + -y = z by omega] at h
    exact h
  clear hz hx hy HA1 HA2
  go_enter Tryd.func74, Tryd.ntmps74
  go_wp2
  obtain ⟨W, hW⟩ : ∃ W, W = ((w.alloc (.cells #[.bool neg1, m1] 51)).alloc (.cells #[.bool neg2, m2] 51)).alloc (.cells #[.bool false, .slice none 0 0] 51) := ⟨_, rfl⟩
  obtain ⟨hg, b0, b1, b2⟩ := al3 w #[.bool neg1, m1] #[.bool neg2, m2] #[.bool false, .slice none 0 0] 51 51 51
  rw [← hW] at hg b0 b1 b2 ⊢
  clear hW
  have H1 := hid (hm1.gr hg)
  have H2 := hid (hm2.gr hg)
  have c00 : W.cell? ⟨w.heap.size, 0, none⟩ = some (.bool neg1) := b0.c 0 rfl
  have c01 : W.cell? ⟨w.heap.size, 1, none⟩ = some (m1) := b0.c 1 rfl
  have c10 : W.cell? ⟨w.heap.size + 1, 0, none⟩ = some (.bool neg2) := b1.c 0 rfl
  have c11 : W.cell? ⟨w.heap.size + 1, 1, none⟩ = some (m2) := b1.c 1 rfl
  have HB0 := hid b2
  have HG := hid hg
  have HS : Hid (w.heap.size < W.heap.size) := by have h := b2.lt; unfold Hid; omega
  clear hm1 hm2 hg b0 b1 b2
  go_region_held3 (fun V => V.cell? ⟨w.heap.size, 0, none⟩ = some (.bool neg1) ∧ V.cell? ⟨w.heap.size, 1, none⟩ = some (m1) ∧ V.cell? ⟨w.heap.size + 1, 0, none⟩ = some (.bool neg2) ∧ V.cell? ⟨w.heap.size + 1, 1, none⟩ = some (m2))
    (first
      | exact ⟨c00, c01, c10, c11⟩
      | with_reducible exact ⟨Gr.cell HG1.out c00, Gr.cell HG1.out c01, Gr.cell HG1.out c10, Gr.cell HG1.out c11⟩
      | with_reducible exact ⟨Gr.cell HG2.out c00, Gr.cell HG2.out c01, Gr.cell HG2.out c10, Gr.cell HG2.out c11⟩
      | with_reducible exact ⟨set2 (by dsimp only; omega) (Gr.cell HG2.out c00), set2 (by dsimp only; omega) (Gr.cell HG2.out c01), set2 (by dsimp only; omega) (Gr.cell HG2.out c10), set2 (by dsimp only; omega) (Gr.cell HG2.out c11)⟩)
    (first
      | (go_at_call 69; refine (HAD.out w1 v (HG.out.trans HG1.out) HV1.out.az).mono ?_; rintro e w2 ⟨v2, rfl, hm, hg2⟩; obtain ⟨A, n, c, rfl, hm⟩ := hm.form; have HVZ := hid (hm.base (b' := W.heap.size) HG1.out.size); have HG2 := hid (HG1.out.trans hg2); have rc00 := (HB0.out.gr HG2.out).c 0 rfl; have rf00 := (HB0.out.gr HG2.out).free 0; have rc01 := (HB0.out.gr HG2.out).c 1 rfl; have rf01 := (HB0.out.gr HG2.out).free 1; have rl0 := (HB0.out.gr HG2.out).lt; clear hm hg2)
      | (go_at_call 66; refine (HNG.out _ (HG.out.trans ((Gr.refl W).drew))).mono ?_; rintro e w1 ⟨v, rfl, hv, hg1⟩; have HV1 := hid hv; have HG1 := hid (((Gr.refl W).drew).trans hg1); clear hv hg1))
  go_wp2
  refine int_end rfl rfl rfl (HB0.out.gr HG2.out) ?_
  intro V hV
  have := HS.out
  have a1 := HVZ.out.exb hV HB0.out.lt
  have a2 := HB0.out.lt
  have a3 := (HG.out.trans HG2.out).ex hV (by omega)
  have a4 := a1.base (b' := w.heap.size) (by omega)
  exact ⟨_, rfl, a4, a3⟩
end Go.Proofs.YtkbgdiejjabdmaaDoor
