/- The walks of package integer, as integers. -/
import Derived.Test.YtkbgdiejjabdmaaDoorNatL
import Derived.Test.YtkbgdiejjabdmaaDoorRes
import Derived.Deep.RegionHeld3
namespace Go.Proofs.YtkbgdiejjabdmaaDoor
open Go.RowKit

/-- sign and magnitude -/
def sgnd (b : Bool) (n : Nat) : Int := if b then -(n : Int) else n
theorem VZ.of_vn {w : World} {b : Nat} {m : Value} {n L : Nat} (s : Bool) (h : VN w b m n L) : VZ w b (.agg #[.bool (s && decide (0 < n)), m]) (sgnd s n) L := by
  unfold sgnd
  cases s with
  | false => exact ⟨m, by simp, by simpa using h⟩
  | true => exact ⟨m, by simp, by simpa using h⟩
theorem limbs_lt {n : Nat} : (0 < (limbs n).length) = (0 < n) := by
  rw [eq_iff_iff]
  constructor
  · intro h
    rcases Nat.eq_zero_or_pos n with h0 | h0
    · rw [h0, limbs_zero] at h; simp at h
    · exact h0
  · intro h
    rw [limbs_pos (n := n) (by omega)]
    simp

set_option maxHeartbeats 4000000 in
theorem make_c (w : World) (b : Bool) (v : Value) (n L : Nat) (h : AN w v n L) (hL : L ≤ 1099511627776) :
    Calls Tryd.prog 63 #[.bool b, v] w (Ret w fun v w' => VZ w' w.heap.size v (sgnd b n) L) := by
  have H := hid h
  clear h
  go_enter Tryd.func63, Tryd.ntmps63
  go_wp2_with fail
  refine (norm_c _ v n L (H.out.gr (Gr.alloc w _)) hL).mono ?_
  rintro e w1 ⟨x, rfl, ⟨A, c, rfl, hr, hlen, hown⟩, hg1⟩
  have HB := hid ((Blk.new w _ _).gr hg1)
  have hc0 := HB.out.c 0 rfl
  have hc1 := HB.out.c 1 rfl
  have hf0 := HB.out.free 0
  have hf1 := HB.out.free 1
  have HV : Hid (VN w1 (w.heap.size + 1) (.slice A (limbs n).length c) n L) := ⟨A, c, rfl, hr, hlen, hown.base (by simp)⟩
  have HG := hid ((Gr.alloc w _).trans hg1)
  have hs := HB.out.lt
  clear hr hlen hown hg1
  obtain ⟨ln, hln⟩ : ∃ ln, ln = (limbs n).length := ⟨_, rfl⟩
  have HV2 := HV
  rw [← hln] at HV2 ⊢
  have hln2 : decide (0 < n) = decide (0 < ln) := by rw [decide_eq_decide, hln, limbs_lt]
  clear hln HV
  have HR : Hid (∀ W, Ex w.heap.size w1 W → Ret w (fun v w' => VZ w' w.heap.size v (sgnd b n) L) (.returned (.agg #[.bool (b && decide (0 < n)), .slice A ln c])) W) :=
    fun W hW => ⟨_, rfl, VZ.of_vn b ((HV2.out.exb hW (by omega)).base (by omega)), HG.out.ex hW (Nat.le_refl _)⟩
  rw [hln2] at HR
  clear hln2 HV2 HG
  cases b
  all_goals
    go_wp2
    refine int_end rfl rfl rfl HB.out ?_
    intro W hW
    have h := HR.out W hW
    first
      | exact h
      | simpa using h

set_option maxHeartbeats 4000000 in
theorem sign_c (w : World) (v : Value) (z : Int) (L : Nat) (h : AZ w v z L) (hL : L ≤ 1099511627776) :
    Calls Tryd.prog 60 #[v] w (Is w (.int .i64 z.sign)) := by
  obtain ⟨neg, m, n, rfl, hm, rfl⟩ := h
  have HM := hid (hm.gr (Gr.alloc w (.cells #[.bool neg, m] 51)))
  clear hm
  obtain ⟨sg, hsg⟩ : ∃ sg, sg = (if neg then -(n : Int) else n).sign := ⟨_, rfl⟩
  rw [← hsg]
  have HSG := hid hsg
  clear hsg
  go_enter Tryd.func60, Tryd.ntmps60
  go_wp2_with fail
  refine (bits_c _ m n L HM.out hL).mono ?_
  rintro e w1 ⟨rfl, hg1⟩
  have hc0 := ((Blk.new w #[.bool neg, m] 51).gr hg1).c 0 rfl
  have HG := hid ((Gr.alloc w _).trans hg1)
  clear hg1
  rcases Nat.eq_zero_or_pos n with h0 | h0
  · have hb : (bitsN n : Int) = 0 := by rw [bitsN_zero.2 h0]; rfl
    have hs : sg = 0 := by rw [HSG.out, h0]; cases neg <;> rfl
    have HS0 := hid hs
    rw [hb]
    clear hs
    go_wp2
    go_ret
    exact ⟨by rw [HS0.out]; rfl, HG.out⟩
  · have hb : ¬ (bitsN n : Int) = 0 := by have := bitsN_pos (n := n) (by omega); omega
    have hb2 : ((bitsN n : Int) == 0) = false := by rw [beq_eq_false_iff_ne]; exact hb
    cases neg with
    | true =>
      have hs : sg = -1 := by rw [HSG.out, if_pos rfl]; exact Int.sign_eq_neg_one_of_neg (by omega)
      have HS0 := hid hs
      clear hs
      go_wp2
      go_ret
      exact ⟨by rw [HS0.out]; rfl, HG.out⟩
    | false =>
      have hs : sg = 1 := by rw [HSG.out, if_neg (by simp)]; exact Int.sign_eq_one_of_pos (by omega)
      have HS0 := hid hs
      clear hs
      go_wp2
      go_ret
      exact ⟨by rw [HS0.out]; rfl, HG.out⟩


set_option maxHeartbeats 4000000 in
theorem zmul_c (w : World) (v1 v2 : Value) (x y : Int) (L K : Nat) (h1 : AZ w v1 x L) (h2 : AZ w v2 y K) (hL : L ≤ 274877906944) (hK : K ≤ 274877906944) :
    Calls Tryd.prog 70 #[v1, v2] w (Ret w fun v w' => VZ w' w.heap.size v (x * y) (L + K)) := by
  obtain ⟨neg1, m1, n1, rfl, hm1, hx⟩ := h1
  obtain ⟨neg2, m2, n2, rfl, hm2, hy⟩ := h2
  have hz : sgnd (neg1 != neg2) (n1 * n2) = x * y := by rw [hx, hy]; unfold sgnd; cases neg1 <;> cases neg2 <;> simp [Int.neg_mul, Int.mul_neg]
  have HMK : Hid (∀ (w1 : World) (v : Value), AN w1 v (n1 * n2) (L + K) → Calls Tryd.prog 63 #[.bool (neg1 != neg2), v] w1 (Ret w1 fun v w' => VZ w' w1.heap.size v (x * y) (L + K))) := by
    intro w1 v h
    have h2 := make_c w1 (neg1 != neg2) v (n1 * n2) (L + K) h (by omega)
    rw [hz] at h2
    exact h2
  clear hz hx hy
  go_enter Tryd.func70, Tryd.ntmps70
  go_wp2
  obtain ⟨W, hW⟩ : ∃ W, W = ((w.alloc (.cells #[.bool neg1, m1] 51)).alloc (.cells #[.bool neg2, m2] 51)).alloc (.cells #[.bool false, .slice none 0 0] 51) := ⟨_, rfl⟩
  obtain ⟨hg, b0, b1, b2⟩ := al3 w #[.bool neg1, m1] #[.bool neg2, m2] #[.bool false, .slice none 0 0] 51 51 51
  rw [← hW] at hg b0 b1 b2 ⊢
  clear hW
  have H1 := hid (hm1.gr hg)
  have H2 := hid (hm2.gr hg)
  have c00 : W.cell? ⟨w.heap.size, 0, none⟩ = some (.bool neg1) := b0.c 0 rfl
  have c01 : W.cell? ⟨w.heap.size, 1, none⟩ = some (m1) := b0.c 1 rfl
  have c10 : W.cell? ⟨w.heap.size + 1, 0, none⟩ = some (.bool neg2) := b1.c 0 rfl
  have c11 : W.cell? ⟨w.heap.size + 1, 1, none⟩ = some (m2) := b1.c 1 rfl
  have HB0 := hid b2
  have HG := hid hg
  have HS : Hid (w.heap.size < W.heap.size) := by have h := b2.lt; unfold Hid; omega
  clear hm1 hm2 hg b0 b1 b2
  go_region_held3 (fun V => V.cell? ⟨w.heap.size, 0, none⟩ = some (.bool neg1) ∧ V.cell? ⟨w.heap.size, 1, none⟩ = some (m1) ∧ V.cell? ⟨w.heap.size + 1, 0, none⟩ = some (.bool neg2) ∧ V.cell? ⟨w.heap.size + 1, 1, none⟩ = some (m2))
    (first
      | exact ⟨c00, c01, c10, c11⟩
      | with_reducible exact ⟨Gr.cell HG1.out c00, Gr.cell HG1.out c01, Gr.cell HG1.out c10, Gr.cell HG1.out c11⟩
      | with_reducible exact ⟨Gr.cell HG2.out c00, Gr.cell HG2.out c01, Gr.cell HG2.out c10, Gr.cell HG2.out c11⟩
      | with_reducible exact ⟨set2 (by dsimp only; omega) (Gr.cell HG2.out c00), set2 (by dsimp only; omega) (Gr.cell HG2.out c01), set2 (by dsimp only; omega) (Gr.cell HG2.out c10), set2 (by dsimp only; omega) (Gr.cell HG2.out c11)⟩)
    (first
      | (go_at_call 63; refine (HMK.out w1 v HV1.out.an).mono ?_; rintro e w2 ⟨v2, rfl, hm, hg2⟩; obtain ⟨A, n, c, rfl, hm⟩ := hm.form; have HV2 := hid (hm.base (b' := W.heap.size) HG1.out.size); have HG2 := hid (HG1.out.trans hg2); have rc00 := (HB0.out.gr HG2.out).c 0 rfl; have rf00 := (HB0.out.gr HG2.out).free 0; have rc01 := (HB0.out.gr HG2.out).c 1 rfl; have rf01 := (HB0.out.gr HG2.out).free 1; have rl0 := (HB0.out.gr HG2.out).lt; clear hm hg2)
      | (go_at_call 37; refine (mul_c _ m1 m2 n1 n2 L K (H1.out.gr ((Gr.refl W).drew)) (H2.out.gr ((Gr.refl W).drew)) (by omega) (by omega)).mono ?_; rintro e w1 ⟨v, rfl, hv, hg1⟩; have HV1 := hid hv; have HG1 := hid (((Gr.refl W).drew).trans hg1); clear hv hg1))
  go_wp2
  refine int_end rfl rfl rfl (HB0.out.gr HG2.out) ?_
  intro V hV
  have := HS.out
  have a1 := HV2.out.exb hV HB0.out.lt
  have a2 := HB0.out.lt
  have a3 := (HG.out.trans HG2.out).ex hV (by omega)
  have a4 := a1.base (b' := w.heap.size) (by omega)
  exact ⟨_, rfl, a4, a3⟩

set_option maxHeartbeats 4000000 in
theorem zneg_c (w : World) (v1 : Value) (x : Int) (L : Nat) (h1 : AZ w v1 x L) (hL : L ≤ 274877906944) :
    Calls Tryd.prog 66 #[v1] w (Ret w fun v w' => VZ w' w.heap.size v (-x) L) := by
  obtain ⟨neg1, m1, n1, rfl, hm1, hx⟩ := h1
  obtain ⟨z, hzz⟩ : ∃ z, z = -x := ⟨_, rfl⟩
  have hz : sgnd (!neg1) n1 = z := by rw [hzz, hx]; unfold sgnd; cases neg1 <;> simp
  rw [← hzz]
  have HMK : Hid (∀ (w1 : World) (v : Value), AN w1 v n1 L → Calls Tryd.prog 63 #[.bool (!neg1), v] w1 (Ret w1 fun v w' => VZ w' w1.heap.size v z L)) := by
    intro w1 v h
    have h2 := make_c w1 (!neg1) v n1 L h (by omega)
    rw [hz] at h2
    exact h2
  clear hz hx hzz
  go_enter Tryd.func66, Tryd.ntmps66
  go_wp2_with fail
  obtain ⟨W, hW⟩ : ∃ W, W = (w.alloc (.cells #[.bool neg1, m1] 51)).alloc (.cells #[.bool false, .slice none 0 0] 51) := ⟨_, rfl⟩
  obtain ⟨hg, b0, b1⟩ := al2 w #[.bool neg1, m1] #[.bool false, .slice none 0 0] 51 51
  rw [← hW] at hg b0 b1 ⊢
  clear hW
  have H1 := hid (hm1.gr hg)
  have c00 : W.cell? ⟨w.heap.size, 0, none⟩ = some (.bool neg1) := b0.c 0 rfl
  have c01 : W.cell? ⟨w.heap.size, 1, none⟩ = some (m1) := b0.c 1 rfl
  have HB0 := hid b1
  have HG := hid hg
  have HS : Hid (w.heap.size < W.heap.size) := by have h := b1.lt; unfold Hid; omega
  clear hm1 hg b0 b1
  refine (HMK.out W m1 H1.out).mono ?_
  rintro e w2 ⟨v2, rfl, hm, hg2⟩
  obtain ⟨A, n, c, rfl, hm⟩ := hm.form
  have HV2 := hid hm
  have HG2 := hid hg2
  have rc00 := (HB0.out.gr HG2.out).c 0 rfl
  have rf00 := (HB0.out.gr HG2.out).free 0
  have rc01 := (HB0.out.gr HG2.out).c 1 rfl
  have rf01 := (HB0.out.gr HG2.out).free 1
  have rl0 := (HB0.out.gr HG2.out).lt
  clear hm hg2
  go_wp2
  refine int_end rfl rfl rfl (HB0.out.gr HG2.out) ?_
  intro V hV
  have := HS.out
  have a1 := HV2.out.exb hV HB0.out.lt
  have a2 := HB0.out.lt
  have a3 := (HG.out.trans HG2.out).ex hV (by omega)
  have a4 := a1.base (b' := w.heap.size) (by omega)
  exact ⟨_, rfl, a4, a3⟩
end Go.Proofs.YtkbgdiejjabdmaaDoor
