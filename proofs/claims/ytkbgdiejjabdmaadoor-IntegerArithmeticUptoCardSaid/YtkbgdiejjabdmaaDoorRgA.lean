/- The walks of the reference's integers: Norm, Make, Of, Sign, Neg. -/
import Derived.Test.YtkbgdiejjabdmaaDoorRfF
import Derived.Test.YtkbgdiejjabdmaaDoorIntC
namespace Go.Proofs.YtkbgdiejjabdmaaDoor
open Go.RowKit

set_option maxHeartbeats 4000000 in
theorem xznorm_c (w : World) (v1 : Value) (x : Int) (L : Nat) (h1 : AZ w v1 x L) (hL : L ≤ 274877906944) :
    Calls Tryd.prog 65 #[v1] w (Ret w fun v w' => VZ w' w.heap.size v x L) := by
  obtain ⟨neg1, m1, n1, rfl, hm1, hx⟩ := h1
  have hx2 : sgnd neg1 n1 = x := hx.symm
  go_enter Tryd.func65, Tryd.ntmps65
  go_wp2_with fail
  obtain ⟨W, hW⟩ : ∃ W, W = (w.alloc (.cells #[.bool neg1, m1] 51)).alloc (.cells #[.bool false, .slice none 0 0] 51) := ⟨_, rfl⟩
  obtain ⟨hg, b0, b1⟩ := al2 w #[.bool neg1, m1] #[.bool false, .slice none 0 0] 51 51
  rw [← hW] at hg b0 b1 ⊢
  clear hW
  have H1 := hid (hm1.gr hg)
  have c00 : W.cell? ⟨w.heap.size, 0, none⟩ = some (.bool neg1) := b0.c 0 rfl
  have c01 : W.cell? ⟨w.heap.size, 1, none⟩ = some (m1) := b0.c 1 rfl
  have HB0 := hid b1
  have HG := hid hg
  have HS : Hid (w.heap.size < W.heap.size) := by have h := b1.lt; unfold Hid; omega
  clear hm1 hg b0 b1
  refine (xnorm_c W m1 n1 L H1.out (by omega)).mono ?_
  rintro e w1 ⟨y, rfl, ⟨A, c, rfl, hr, hlen, hown⟩, hg1⟩
  have HG1 := hid hg1
  have d00 := Gr.cell hg1 c00
  have HV : Hid (VN w1 W.heap.size (.slice A (limbs n1).length c) n1 L) := ⟨A, c, rfl, hr, hlen, hown⟩
  have rc00 := (HB0.out.gr HG1.out).c 0 rfl
  have rf00 := (HB0.out.gr HG1.out).free 0
  have rc01 := (HB0.out.gr HG1.out).c 1 rfl
  have rf01 := (HB0.out.gr HG1.out).free 1
  have rl0 := (HB0.out.gr HG1.out).lt
  clear hr hlen hown hg1 c00 c01
  obtain ⟨ln, hln⟩ : ∃ ln, ln = (limbs n1).length := ⟨_, rfl⟩
  rw [← hln] at HV ⊢
  have hln2 : decide (0 < n1) = decide (0 < ln) := by rw [decide_eq_decide, hln, limbs_lt]
  clear hln
  have HR : Hid (∀ V, Ex (w.heap.size + 1) w1 V → Ret w (fun v w' => VZ w' w.heap.size v x L) (.returned (.agg #[.bool (neg1 && decide (0 < ln)), .slice A ln c])) V) := by
    intro V hV
    have a0 := HB0.out.lt
    have a1 := (HV.out.exb hV a0).base (b' := w.heap.size) (by have := HS.out; omega)
    have a2 := VZ.of_vn neg1 a1
    rw [hln2, hx2] at a2
    exact ⟨_, rfl, a2, (HG.out.trans HG1.out).ex hV (by omega)⟩
  clear hln2 hx hx2
  cases neg1
  all_goals
    go_wp2
    refine int_end rfl rfl rfl (HB0.out.gr HG1.out) ?_
    intro V hV
    have h := HR.out V hV
    first
      | exact h
      | simpa using h

set_option maxHeartbeats 4000000 in
theorem xzmake_c (w : World) (b : Bool) (m1 : Value) (n L : Nat) (h1 : AN w m1 n L) (hL : L ≤ 274877906944) :
    Calls Tryd.prog 64 #[.bool b, m1] w (Ret w fun v w' => VZ w' w.heap.size v (sgnd b n) L) := by
  have H1 := hid h1
  obtain ⟨A1, c1, xs1, rfl, _, _, _⟩ := h1
  obtain ⟨l1, hl1⟩ : ∃ l, l = xs1.length := ⟨_, rfl⟩
  rw [← hl1] at H1 ⊢
  clear hl1
  go_enter Tryd.func64, Tryd.ntmps64
  go_wp2_with fail
  obtain ⟨W, hW⟩ : ∃ W, W = w.alloc (.cells #[.bool false, .slice none 0 0] 51) := ⟨_, rfl⟩
  obtain ⟨hg, b0⟩ := al1 w #[.bool false, .slice none 0 0] 51
  rw [← hW] at hg b0 ⊢
  clear hW
  have HB0 := hid b0
  have HG := hid hg
  have HS : Hid (w.heap.size < W.heap.size) := by have h := b0.lt; unfold Hid; omega
  clear hg b0
  refine (xznorm_c W _ (sgnd b n) L ⟨b, _, n, rfl, H1.out.gr HG.out, rfl⟩ hL).mono ?_
  rintro e w2 ⟨v2, rfl, hm, hg2⟩
  obtain ⟨A, n2, c, rfl, hm⟩ := hm.form
  have HV2 := hid hm
  have HG2 := hid hg2
  obtain ⟨bb, hbb⟩ : ∃ x, x = decide (sgnd b n < 0) := ⟨_, rfl⟩
  rw [← hbb] at HV2 ⊢
  have rc00 := (HB0.out.gr HG2.out).c 0 rfl
  have rf00 := (HB0.out.gr HG2.out).free 0
  have rc01 := (HB0.out.gr HG2.out).c 1 rfl
  have rf01 := (HB0.out.gr HG2.out).free 1
  have rl0 := (HB0.out.gr HG2.out).lt
  clear hm hg2 hbb
  go_wp2
  refine int_end rfl rfl rfl (HB0.out.gr HG2.out) ?_
  intro V hV
  have := HS.out
  have a1 := HV2.out.exb hV HB0.out.lt
  have a2 := HB0.out.lt
  have a3 := (HG.out.trans HG2.out).ex hV (by omega)
  have a4 := a1.base (b' := w.heap.size) (by omega)
  exact ⟨_, rfl, a4, a3⟩

set_option maxHeartbeats 4000000 in
theorem xzneg_c (w : World) (v1 : Value) (x : Int) (L : Nat) (h1 : AZ w v1 x L) (hL : L ≤ 274877906944) :
    Calls Tryd.prog 67 #[v1] w (Ret w fun v w' => VZ w' w.heap.size v (-x) L) := by
  obtain ⟨neg1, m1, n1, rfl, hm1, hx⟩ := h1
  obtain ⟨z, hzz⟩ : ∃ z, z = -x := ⟨_, rfl⟩
  have hz : sgnd (!neg1) n1 = z := by rw [hzz, hx]; unfold sgnd; cases neg1 <;> simp
  rw [← hzz]
  have HMK : Hid (∀ (w1 : World) (v : Value), AN w1 v n1 L → Calls Tryd.prog 64 #[.bool (!neg1), v] w1 (Ret w1 fun v w' => VZ w' w1.heap.size v z L)) := by
    intro w1 v h
    have h2 := xzmake_c w1 (!neg1) v n1 L h (by omega)
    rw [hz] at h2
    exact h2
  clear hz hx hzz
  go_enter Tryd.func67, Tryd.ntmps67
  go_wp2_with fail
  obtain ⟨W, hW⟩ : ∃ W, W = (w.alloc (.cells #[.bool neg1, m1] 51)).alloc (.cells #[.bool false, .slice none 0 0] 51) := ⟨_, rfl⟩
  obtain ⟨hg, b0, b1⟩ := al2 w #[.bool neg1, m1] #[.bool false, .slice none 0 0] 51 51
  rw [← hW] at hg b0 b1 ⊢
  clear hW
  have H1 := hid (hm1.gr hg)
  have c00 : W.cell? ⟨w.heap.size, 0, none⟩ = some (.bool neg1) := b0.c 0 rfl
  have c01 : W.cell? ⟨w.heap.size, 1, none⟩ = some (m1) := b0.c 1 rfl
  have HB0 := hid b1
  have HG := hid hg
  have HS : Hid (w.heap.size < W.heap.size) := by have h := b1.lt; unfold Hid; omega
  clear hm1 hg b0 b1
  refine (HMK.out W m1 H1.out).mono ?_
  rintro e w2 ⟨v2, rfl, hm, hg2⟩
  obtain ⟨A, n2, c, rfl, hm⟩ := hm.form
  have HV2 := hid hm
  have HG2 := hid hg2
  obtain ⟨bb, hbb⟩ : ∃ x, x = decide (z < 0) := ⟨_, rfl⟩
  rw [← hbb] at HV2 ⊢
  have rc00 := (HB0.out.gr HG2.out).c 0 rfl
  have rf00 := (HB0.out.gr HG2.out).free 0
  have rc01 := (HB0.out.gr HG2.out).c 1 rfl
  have rf01 := (HB0.out.gr HG2.out).free 1
  have rl0 := (HB0.out.gr HG2.out).lt
  clear hm hg2 hbb
  go_wp2
  refine int_end rfl rfl rfl (HB0.out.gr HG2.out) ?_
  intro V hV
  have := HS.out
  have a1 := HV2.out.exb hV HB0.out.lt
  have a2 := HB0.out.lt
  have a3 := (HG.out.trans HG2.out).ex hV (by omega)
  have a4 := a1.base (b' := w.heap.size) (by omega)
  exact ⟨_, rfl, a4, a3⟩

set_option maxHeartbeats 4000000 in
theorem xzof_c (w : World) (z : Int) (h0 : -9223372036854775808 ≤ z) (h1 : z ≤ 9223372036854775807) :
    Calls Tryd.prog 62 #[.int .i64 z] w (Ret w fun v w' => VZ w' w.heap.size v z 2) := by
  by_cases hz : z < 0
  · have e1 : sgnd true (-z).toNat = z := by unfold sgnd; rw [if_pos rfl]; omega
    have e2 : IntKind.i64.wrap (z + 1) = z + 1 := IntWalk.i64_in _ (by omega)
    have e3 : IntKind.i64.wrap (-(z + 1)) = -(z + 1) := IntWalk.i64_in _ (by omega)
    have e4 : IntKind.u64.wrap (-(z + 1)) = -(z + 1) := IntWalk.u64_in _ (by omega)
    have e5 : IntKind.u64.wrap (-(z + 1) + 1) = -z := by rw [IntWalk.u64_in _ (by omega)]; omega
    have HMK : Hid (∀ (w1 : World) (v : Value), AN w1 v (-z).toNat 2 → Calls Tryd.prog 64 #[.bool true, v] w1 (Ret w1 fun v w' => VZ w' w1.heap.size v z 2)) := fun w1 v h => by
      have h2 := xzmake_c w1 true v _ 2 h (by decide)
      rw [e1] at h2
      exact h2
    have HOF : Hid (∀ w1 : World, Calls Tryd.prog 29 #[.int .u64 (-z)] w1 (Ret w1 fun v w' => VN w' w1.heap.size v (-z).toNat 2)) := fun w1 => xof_c w1 _ (by omega) (by omega)
    clear e1
    go_enter Tryd.func62, Tryd.ntmps62
    go_wp2_with fail
    obtain ⟨W, hW⟩ : ∃ W, W = w.alloc (.cells #[.bool false, .slice none 0 0] 51) := ⟨_, rfl⟩
    obtain ⟨hg, b0⟩ := al1 w #[.bool false, .slice none 0 0] 51
    rw [← hW] at hg b0 ⊢
    clear hW
    have HB0 := hid b0
    have HG := hid hg
    have HS : Hid (w.heap.size < W.heap.size) := by have h := b0.lt; unfold Hid; omega
    clear hg b0
    refine (HOF.out W).mono ?_
    rintro e w1 ⟨v1, rfl, hv1, hg1⟩
    have HV1 := hid hv1.an
    have HG1 := hid hg1
    clear hv1 hg1
    go_wp2_with fail
    refine (HMK.out w1 v1 HV1.out).mono ?_
    rintro e w2 ⟨v2, rfl, hm, hg2⟩
    obtain ⟨A, n2, c, rfl, hm⟩ := hm.form
    have HV2 := hid (hm.base (b' := W.heap.size) HG1.out.size)
    have HG2 := hid (HG1.out.trans hg2)
    obtain ⟨bb, hbb⟩ : ∃ x, x = decide (z < 0) := ⟨_, rfl⟩
    rw [← hbb] at HV2 ⊢
    have rc00 := (HB0.out.gr HG2.out).c 0 rfl
    have rf00 := (HB0.out.gr HG2.out).free 0
    have rc01 := (HB0.out.gr HG2.out).c 1 rfl
    have rf01 := (HB0.out.gr HG2.out).free 1
    have rl0 := (HB0.out.gr HG2.out).lt
    clear hm hg2 hbb
    go_wp2
    refine int_end rfl rfl rfl (HB0.out.gr HG2.out) ?_
    intro V hV
    have := HS.out
    have a1 := HV2.out.exb hV HB0.out.lt
    have a2 := HB0.out.lt
    have a3 := (HG.out.trans HG2.out).ex hV (by omega)
    have a4 := a1.base (b' := w.heap.size) (by omega)
    exact ⟨_, rfl, a4, a3⟩
  · have e1 : sgnd false z.toNat = z := by unfold sgnd; rw [if_neg (by simp)]; omega
    have e4 : IntKind.u64.wrap z = z := IntWalk.u64_in _ (by omega)
    have hz0 : 0 ≤ z := by omega
    have HMK : Hid (∀ (w1 : World) (v : Value), AN w1 v z.toNat 2 → Calls Tryd.prog 64 #[.bool false, v] w1 (Ret w1 fun v w' => VZ w' w1.heap.size v z 2)) := fun w1 v h => by
      have h2 := xzmake_c w1 false v _ 2 h (by decide)
      rw [e1] at h2
      exact h2
    have HOF : Hid (∀ w1 : World, Calls Tryd.prog 29 #[.int .u64 z] w1 (Ret w1 fun v w' => VN w' w1.heap.size v z.toNat 2)) := fun w1 => xof_c w1 _ (by omega) (by omega)
    clear e1
    go_enter Tryd.func62, Tryd.ntmps62
    go_wp2_with fail
    obtain ⟨W, hW⟩ : ∃ W, W = w.alloc (.cells #[.bool false, .slice none 0 0] 51) := ⟨_, rfl⟩
    obtain ⟨hg, b0⟩ := al1 w #[.bool false, .slice none 0 0] 51
    rw [← hW] at hg b0 ⊢
    clear hW
    have HB0 := hid b0
    have HG := hid hg
    have HS : Hid (w.heap.size < W.heap.size) := by have h := b0.lt; unfold Hid; omega
    clear hg b0
    refine (HOF.out W).mono ?_
    rintro e w1 ⟨v1, rfl, hv1, hg1⟩
    have HV1 := hid hv1.an
    have HG1 := hid hg1
    clear hv1 hg1
    go_wp2_with fail
    refine (HMK.out w1 v1 HV1.out).mono ?_
    rintro e w2 ⟨v2, rfl, hm, hg2⟩
    obtain ⟨A, n2, c, rfl, hm⟩ := hm.form
    have HV2 := hid (hm.base (b' := W.heap.size) HG1.out.size)
    have HG2 := hid (HG1.out.trans hg2)
    obtain ⟨bb, hbb⟩ : ∃ x, x = decide (z < 0) := ⟨_, rfl⟩
    rw [← hbb] at HV2 ⊢
    have rc00 := (HB0.out.gr HG2.out).c 0 rfl
    have rf00 := (HB0.out.gr HG2.out).free 0
    have rc01 := (HB0.out.gr HG2.out).c 1 rfl
    have rf01 := (HB0.out.gr HG2.out).free 1
    have rl0 := (HB0.out.gr HG2.out).lt
    clear hm hg2 hbb
    go_wp2
    refine int_end rfl rfl rfl (HB0.out.gr HG2.out) ?_
    intro V hV
    have := HS.out
    have a1 := HV2.out.exb hV HB0.out.lt
    have a2 := HB0.out.lt
    have a3 := (HG.out.trans HG2.out).ex hV (by omega)
    have a4 := a1.base (b' := w.heap.size) (by omega)
    exact ⟨_, rfl, a4, a3⟩

set_option maxHeartbeats 4000000 in
theorem xzsign_c (w : World) (v1 : Value) (x : Int) (L : Nat) (h1 : AZ w v1 x L) (hL : L ≤ 274877906944) :
    Calls Tryd.prog 61 #[v1] w (Is w (.int .i64 x.sign)) := by
  have HA := hid h1
  obtain ⟨neg1, m1, n1, rfl, hm1, hx⟩ := h1
  clear hm1 hx n1
  obtain ⟨sg, hsg⟩ : ∃ s, s = x.sign := ⟨_, rfl⟩
  rw [← hsg]
  have HSG := hid hsg
  clear hsg
  go_enter Tryd.func61, Tryd.ntmps61
  go_wp2_with fail
  obtain ⟨W, hW⟩ : ∃ V, V = w.alloc (.cells #[.bool neg1, m1] 51) := ⟨_, rfl⟩
  obtain ⟨hg, b0⟩ := al1 w #[.bool neg1, m1] 51
  rw [← hW] at hg b0 ⊢
  clear hW
  have HG := hid hg
  clear hg b0
  refine (xznorm_c W _ x L (HA.out.gr HG.out) hL).mono ?_
  rintro e w1 ⟨v, rfl, ⟨m, rfl, A, c, rfl, hr, hl, ho⟩, hg1⟩
  have HG1 := hid (HG.out.trans hg1)
  clear hr hl ho hg1
  obtain ⟨l, hlx⟩ : ∃ l, l = (limbs x.natAbs).length := ⟨_, rfl⟩
  have hl0 : 0 < l ↔ 0 < x.natAbs := by rw [hlx, ← eq_iff_iff]; exact limbs_lt
  rw [← hlx]
  obtain ⟨bb, hbb⟩ : ∃ b, b = decide (x < 0) := ⟨_, rfl⟩
  rw [← hbb]
  have HBB := hid hbb
  have HL0 := hid hl0
  clear hlx hbb hl0
  by_cases hx0 : l = 0
  · have hs : sg = 0 := by
      have h := HL0.out
      have hz : x = 0 := by omega
      rw [HSG.out, hz]; rfl
    have HS := hid hs
    subst hx0
    clear hs
    go_wp2
    go_ret
    exact ⟨by rw [HS.out]; rfl, HG1.out.trans (Gr.alloc _ _)⟩
  · have hne : ((l : Int) == 0) = false := by rw [beq_eq_false_iff_ne]; omega
    cases bb with
    | true =>
      have hs : sg = -1 := by rw [HSG.out]; exact Int.sign_eq_neg_one_of_neg (by have := HBB.out; simpa using this.symm)
      have HS := hid hs
      clear hs
      go_wp2
      go_ret
      exact ⟨by rw [HS.out]; rfl, HG1.out.trans (Gr.alloc _ _)⟩
    | false =>
      have hs : sg = 1 := by
        have h := HL0.out
        have h2 : ¬ x < 0 := by have := HBB.out; simpa using this.symm
        rw [HSG.out]; exact Int.sign_eq_one_of_pos (by omega)
      have HS := hid hs
      clear hs
      go_wp2
      go_ret
      exact ⟨by rw [HS.out]; rfl, HG1.out.trans (Gr.alloc _ _)⟩
end Go.Proofs.YtkbgdiejjabdmaaDoor
