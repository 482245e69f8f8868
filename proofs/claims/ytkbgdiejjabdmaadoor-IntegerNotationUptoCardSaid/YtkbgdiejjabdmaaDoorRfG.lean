/- The walks of the reference's Uint and Pow, as numbers. -/
import Derived.Test.YtkbgdiejjabdmaaDoorNatM
import Derived.Test.YtkbgdiejjabdmaaDoorRfC
namespace Go.Proofs.YtkbgdiejjabdmaaDoor
open Go.RowKit

theorem val_two2 {x : List Int} (h : x.length ≤ 2) (hl : Lim x) : (val x : Int) = x.getD 1 0 * 4294967296 + x.getD 0 0 := by
  match x, h, hl with
  | [], _, _ => rfl
  | [a], _, hl =>
    have h := hl.get 0
    show ((a.toNat + 4294967296 * 0 : Nat) : Int) = 0 * 4294967296 + a
    have h2 : 0 ≤ a := h.1
    omega
  | [a, b], _, hl =>
    have h := hl.get 0
    have h1 := hl.get 1
    show ((a.toNat + 4294967296 * (b.toNat + 4294967296 * 0) : Nat) : Int) = b * 4294967296 + a
    have h2 : 0 ≤ a := h.1
    have h3 : 0 ≤ b := h1.1
    omega

set_option maxHeartbeats 4000000 in
theorem xuint_c (w : World) (v1 : Value) (n L : Nat) (h1 : AN w v1 n L) (hL : L ≤ 1099511627776) :
    Calls Tryd.prog 22 #[v1] w (Is w (.tuple #[.int .u64 (uN n), .bool (uB n)])) := by
  have HNM := hid (xnorm_c w v1 n L h1 hL)
  obtain ⟨A0, c0, xs0, hv0, _, _, _⟩ := h1
  subst hv0
  obtain ⟨U, hU⟩ : ∃ u, u = uN n := ⟨_, rfl⟩
  obtain ⟨B, hB⟩ : ∃ b, b = uB n := ⟨_, rfl⟩
  rw [← hU, ← hB]
  have HU := hid hU
  have HB := hid hB
  have HL := hid hL
  clear hU hB hL
  go_enter Tryd.func22, Tryd.ntmps22
  go_wp2_with fail
  refine HNM.out.mono ?_
  rintro e w1 ⟨v, rfl, ⟨A, c, rfl, hr, hl, hown⟩, hg⟩
  have hs := small_len (n := n)
  have hv := val_limbs n
  obtain ⟨x, hx⟩ : ∃ x, x = limbs n := ⟨_, rfl⟩
  rw [← hx] at hr hl hs hv ⊢
  have hU2 : U = if x.length ≤ 2 then (x.getD 1 0 * 4294967296 + x.getD 0 0) else 0 := by
    rw [HU.out]
    unfold uN
    by_cases h : x.length ≤ 2
    · rw [if_pos h, if_pos (hs.2 h), ← val_two2 h hr.lim, hv]
    · rw [if_neg h, if_neg (fun h2 => h (hs.1 h2))]
  have hB2 : B = decide (x.length ≤ 2) := by
    rw [HB.out]
    unfold uB
    rw [decide_eq_decide]
    exact hs
  have g0 := hr.lim.get 0
  have g1 := hr.lim.get 1
  have HL0 : Hid (Calls Tryd.prog 96 #[.slice A x.length c, .int .i64 0] w1 fun e w' => e = .returned (.int .u64 (x.getD 0 0)) ∧ w1 = w') := xlimb_c w1 A c x.length 0 x hr rfl (Nat.le_trans hl HL.out) (by decide)
  have HL1 : Hid (Calls Tryd.prog 96 #[.slice A x.length c, .int .i64 1] w1 fun e w' => e = .returned (.int .u64 (x.getD 1 0)) ∧ w1 = w') := xlimb_c w1 A c x.length 1 x hr rfl (Nat.le_trans hl HL.out) (by decide)
  obtain ⟨p, hp⟩ : ∃ p, p = x.getD 0 0 := ⟨_, rfl⟩
  obtain ⟨q, hq⟩ : ∃ q, q = x.getD 1 0 := ⟨_, rfl⟩
  rw [← hp] at g0 HL0 hU2
  rw [← hq] at g1 HL1 hU2
  have HU2 := hid hU2
  have HB2 := hid hB2
  have HG := hid hg
  clear hr hl hown hg hs hv hx hU2 hB2 hp hq HU HB
  by_cases hlen : (2 : Int) < x.length
  · have hB0 : B = false := by rw [HB2.out]; exact decide_eq_false (by omega)
    have hU0 : U = 0 := by rw [HU2.out, if_neg (by omega)]
    have HB0 := hid hB0
    have HU0 := hid hU0
    clear hB0 hU0
    go_wp2
    go_ret2
    exact ⟨by rw [HB0.out, HU0.out]; rfl, HG.out⟩
  · have hB0 : B = true := by rw [HB2.out]; exact decide_eq_true (by omega)
    have hU0 : U = q * 4294967296 + p := by rw [HU2.out, if_pos (by omega)]
    have HB0 := hid hB0
    have HU0 := hid hU0
    obtain ⟨g00, g01⟩ := g0
    obtain ⟨g10, g11⟩ := g1
    clear hB0 hU0
    go_wp2_with fail
    refine HL1.out.mono ?_
    rintro e w' ⟨rfl, rfl⟩
    go_wp2_with fail
    refine HL0.out.mono ?_
    rintro e w' ⟨rfl, rfl⟩
    go_wp2
    go_ret2
    exact ⟨by rw [HB0.out, HU0.out]; rfl, HG.out⟩

def XpIn (a L : Nat) (w wr : World) (k : Nat) (v : Value) : Prop := VN wr w.heap.size v (a ^ k) (L * 1024 + 1) ∧ Gr w wr

set_option maxHeartbeats 4000000 in
theorem xpow_c (w : World) (v1 : Value) (a L : Nat) (n : Int) (h1 : AN w v1 a L) (hL : L ≤ 268435456) :
    Calls Tryd.prog 44 #[v1, .int .i64 n] w (RetB w (decide (0 ≤ n ∧ n ≤ 512)) fun v w' => VN w' w.heap.size v (if 0 ≤ n ∧ n ≤ 512 then a ^ n.toNat else 0) (L * 1024 + 1)) := by
  by_cases hn : n < 0
  · have hd : ¬ (0 ≤ n ∧ n ≤ 512) := by omega
    rw [if_neg hd, decide_eq_false hd]
    clear h1
    go_enter Tryd.func44, Tryd.ntmps44
    go_wp2
    go_ret2
    exact ⟨_, rfl, VN.zero _ _ _ _ _, Gr.refl _⟩
  by_cases hn2 : 512 < n
  · have hd : ¬ (0 ≤ n ∧ n ≤ 512) := by omega
    rw [if_neg hd, decide_eq_false hd]
    clear h1
    go_enter Tryd.func44, Tryd.ntmps44
    go_wp2
    go_ret2
    exact ⟨_, rfl, VN.zero _ _ _ _ _, Gr.refl _⟩
  have hd : 0 ≤ n ∧ n ≤ 512 := by omega
  rw [if_pos hd, decide_eq_true hd]
  obtain ⟨m, rfl⟩ : ∃ m : Nat, n = m := ⟨n.toNat, by omega⟩
  have hm : m ≤ 512 := by omega
  rw [Int.toNat_natCast]
  have hla : (limbs a).length ≤ L := by
    obtain ⟨A, c, xs, rfl, hr, rfl, hl⟩ := h1
    exact Nat.le_trans (limbs_val_le hr.lim) hl
  have HLA := hid hla
  have H1 := hid h1
  have hM : L * 1024 + 1 ≤ 549755813888 := by omega
  have HM := hid hM
  have hLL : L ≤ 549755813888 := by omega
  have HLL := hid hLL
  clear hd h1 hla hL hM hLL
  go_enter Tryd.func44, Tryd.ntmps44
  go_wp2_with fail
  refine (xof_c w 1 (by decide) (by decide)).mono ?_
  rintro e w1 ⟨x, rfl, hx, hg1⟩
  have HX : Hid (VN w1 w.heap.size x (a ^ 0) (L * 1024 + 1)) := by
    have h : VN w1 w.heap.size x 1 2 := hx
    rw [Nat.pow_zero]
    exact h.small' (by rw [show limbs 1 = [1] by rw [limbs_pos (n := 1) (by decide), limbs_zero]; rfl]; simp)
  have HG1 := hid hg1
  clear hx hg1
  go_wp2
  go_loopw [6, 7] (fun v i wr => ∃ k : Nat, k ≤ m ∧ i = .int .i64 k ∧ Hid (XpIn a L w wr k v)) (fun _ i _ => m - (intOf i).toNat)
  case atStart => exact ⟨0, Nat.zero_le _, rfl, HX.out, HG1.out⟩
  case round =>
    obtain ⟨k, hk, rfl, HI⟩ := hrel
    have HP := hid HI.out.1
    have HG := hid HI.out.2
    clear HI HX HG1
    by_cases h0 : k < m
    · go_wp2_with fail
      refine (xmul_c wr _ _ _ _ _ _ HP.out.an (H1.out.gr HG.out) HM.out HLL.out).mono ?_
      rintro e w3 ⟨v3, rfl, hv3, hg3⟩
      have HV3 : Hid (VN w3 w.heap.size v3 (a ^ (k + 1)) (L * 1024 + 1)) := by
        have h := hv3.base HG.out.size
        rw [← Nat.pow_succ] at h
        exact h.small' (Nat.le_trans (limbs_pow_len HLA.out _) (pow_bound (by omega)))
      have HG3 := hid (HG.out.trans hg3)
      clear hv3 hg3
      go_wp2
      go_roundw
      case rel => exact ⟨k + 1, by omega, by go_num, HV3.out, HG3.out⟩
      case measure => simp [intOf]; omega
    · have hj : k = m := by omega
      have HJ := hid hj
      clear hj
      go_wp2
      go_ret2
      exact ⟨_, rfl, by rw [← HJ.out]; exact HP.out, HG.out⟩
end Go.Proofs.YtkbgdiejjabdmaaDoor
