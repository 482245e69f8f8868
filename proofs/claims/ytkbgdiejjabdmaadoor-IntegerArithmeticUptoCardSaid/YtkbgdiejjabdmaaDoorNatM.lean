/- The walks of nat.Pow and nat.Uint, as numbers. -/
import Derived.Test.YtkbgdiejjabdmaaDoorNatL
import Derived.Deep.LoopGhost
namespace Go.Proofs.YtkbgdiejjabdmaaDoor
open Go.RowKit

theorem limbs_pow_len {a L : Nat} (h : (limbs a).length ≤ L) (j : Nat) : (limbs (a ^ j)).length ≤ L * j + 1 := by
  have h1 : a < 4294967296 ^ L := by
    have h2 := val_lt (limbs_lim a)
    rw [val_limbs] at h2
    exact Nat.lt_of_lt_of_le h2 (Nat.pow_le_pow_right (by decide) h)
  refine limbs_length_le ?_
  have h3 : a ^ j ≤ (4294967296 ^ L) ^ j := Nat.pow_le_pow_left (Nat.le_of_lt h1) j
  rw [← Nat.pow_mul] at h3
  exact Nat.lt_of_le_of_lt h3 (Nat.pow_lt_pow_right (by decide) (Nat.lt_succ_self _))
theorem VN.small' {w : World} {b : Nat} {v : Value} {n L K : Nat} (h : VN w b v n L) (hk : (limbs n).length ≤ K) : VN w b v n K := by
  obtain ⟨A, c, h1, h2, _, h4⟩ := h
  exact ⟨A, c, h1, h2, hk, h4⟩

def PwIn (a n L : Nat) (w wr : World) (K : Nat) (v5 v6 : Value) : Prop :=
  ∃ t j, VN wr w.heap.size v5 (a ^ j) (L * 1024 + 1) ∧ VN wr w.heap.size v6 (a ^ 2 ^ t) (L * 1024 + 1) ∧ j + K * 2 ^ t = n ∧ 2 ^ t ≤ 1024 ∧ Gr w wr
theorem pow_bound {L j : Nat} (h : j ≤ 1024) : L * j + 1 ≤ L * 1024 + 1 := Nat.succ_le_succ (Nat.mul_le_mul_left _ h)
theorem PwIn.half {j K T n : Nat} (h : j + K * T = n) (hK : K % 2 = 0) : j + K / 2 * (2 * T) = n := by
  obtain ⟨q, rfl⟩ : ∃ q, K = 2 * q := ⟨K / 2, by omega⟩
  rw [show 2 * q / 2 = q by omega, ← h]
  congr 1
  rw [Nat.mul_comm 2 q, Nat.mul_assoc]
theorem PwIn.half' {j K T n : Nat} (h : j + K * T = n) (hK : K % 2 = 1) : j + T + K / 2 * (2 * T) = n := by
  obtain ⟨q, rfl⟩ : ∃ q, K = 2 * q + 1 := ⟨K / 2, by omega⟩
  rw [show (2 * q + 1) / 2 = q by omega, ← h, Nat.add_mul, Nat.one_mul, Nat.add_assoc]
  congr 1
  rw [Nat.add_comm, Nat.mul_comm 2 q, Nat.mul_assoc]

set_option maxHeartbeats 4000000 in
theorem pow_c (w : World) (v1 : Value) (a L : Nat) (n : Int) (h1 : AN w v1 a L) (hL : L ≤ 536870912) :
    Calls Tryd.prog 43 #[v1, .int .i64 n] w (RetB w (decide (0 ≤ n ∧ n ≤ 512)) fun v w' => VN w' w.heap.size v (if 0 ≤ n ∧ n ≤ 512 then a ^ n.toNat else 0) (L * 1024 + 1)) := by
  by_cases hn : n < 0
  · have hd : ¬ (0 ≤ n ∧ n ≤ 512) := by omega
    rw [if_neg hd, decide_eq_false hd]
    clear h1
    go_enter Tryd.func43, Tryd.ntmps43
    go_wp2
    go_ret2
    exact ⟨_, rfl, VN.zero _ _ _ _ _, Gr.refl _⟩
  by_cases hn2 : 512 < n
  · have hd : ¬ (0 ≤ n ∧ n ≤ 512) := by omega
    rw [if_neg hd, decide_eq_false hd]
    clear h1
    go_enter Tryd.func43, Tryd.ntmps43
    go_wp2
    go_ret2
    exact ⟨_, rfl, VN.zero _ _ _ _ _, Gr.refl _⟩
  have hd : 0 ≤ n ∧ n ≤ 512 := by omega
  rw [if_pos hd, decide_eq_true hd]
  obtain ⟨m, rfl⟩ : ∃ m : Nat, n = m := ⟨n.toNat, by omega⟩
  have hm : m ≤ 512 := by omega
  rw [Int.toNat_natCast]
  have hla : (limbs a).length ≤ L := by
    obtain ⟨A, c, xs, rfl, hr, rfl, hl⟩ := h1
    exact Nat.le_trans (limbs_val_le hr.lim) hl
  have HLA := hid hla
  have H1 := hid h1
  have hM : L * 1024 + 1 ≤ 1099511627776 := by omega
  have HM := hid hM
  have hLL : L ≤ 1099511627776 := by omega
  have HLL := hid hLL
  clear hd h1 hla hL hM hLL
  go_enter Tryd.func43, Tryd.ntmps43
  go_wp2_with fail
  refine (of_c w 1 (by decide) (by decide)).mono ?_
  rintro e w1 ⟨x, rfl, hx, hg1⟩
  have HX : Hid (VN w1 w.heap.size x (a ^ 0) (L * 1024 + 1)) := by
    have h : VN w1 w.heap.size x 1 2 := hx
    rw [Nat.pow_zero]
    exact h.small' (by rw [show limbs 1 = [1] by rw [limbs_pos (n := 1) (by decide), limbs_zero]; rfl]; simp)
  have HG1 := hid hg1
  clear hx hg1
  go_wp2_with fail
  refine (norm_c w1 v1 a L (H1.out.gr HG1.out) HLL.out).mono ?_
  rintro e w2 ⟨y, rfl, hy, hg2⟩
  have HY : Hid (VN w2 w.heap.size y (a ^ 2 ^ 0) (L * 1024 + 1)) := by
    have h := (hy.base HG1.out.size)
    rw [Nat.pow_zero, Nat.pow_one]
    exact h.small' (Nat.le_trans HLA.out (by omega))
  have HG2 := hid hg2
  clear hy hg2
  go_wp2
  go_loopw [6, 7, 8] (fun v5 v6 i wr => ∃ K : Nat, K ≤ 512 ∧ i = .int .i64 K ∧ Hid (PwIn a m L w wr K v5 v6)) (fun _ _ i _ => (intOf i).toNat)
  case atStart => exact ⟨m, hm, rfl, 0, 0, HX.out.gr HG2.out, HY.out, by simp, by decide, HG1.out.trans HG2.out⟩
  case round =>
    obtain ⟨K, hK, rfl, HI⟩ := hrel
    obtain ⟨t, j, hp, hb, he, ht, hg⟩ := HI.out
    have HP := hid hp
    have HB := hid hb
    have HE := hid he
    have HT := hid ht
    have HG := hid hg
    clear hp hb he ht hg HI HX HY HG1 HG2 H1
    by_cases h0 : 0 < K
    · have q1 : (K : Int).tdiv 2 = ((K / 2 : Nat) : Int) := by rw [Int.tdiv_eq_ediv_of_nonneg (by omega)]; omega
      have hKT : Hid (2 ^ t ≤ 512) := by
        have h := HE.out
        have h2 : 1 * 2 ^ t ≤ K * 2 ^ t := Nat.mul_le_mul_right _ h0
        unfold Hid
        omega
      have hjt : Hid (j + 2 ^ t ≤ 1024) := by
        have h := HE.out
        have h2 : 1 * 2 ^ t ≤ K * 2 ^ t := Nat.mul_le_mul_right _ h0
        unfold Hid
        omega
      have e2 : Hid ((2 : Nat) ^ (t + 1) = 2 * 2 ^ t) := by unfold Hid; rw [Nat.pow_succ, Nat.mul_comm]
      have hsq : Hid (a ^ 2 ^ t * a ^ 2 ^ t = a ^ 2 ^ (t + 1)) := by unfold Hid; rw [← Nat.pow_add, e2.out, Nat.two_mul]
      by_cases hodd : K % 2 = 1
      · have q2 : ((K : Int).tmod 2 == 1) = true := by rw [Int.tmod_eq_emod_of_nonneg (by omega), beq_iff_eq]; omega
        go_wp2_with fail
        refine (mul_c wr _ _ _ _ _ _ HP.out.an HB.out.an HM.out HM.out).mono ?_
        rintro e w3 ⟨v3, rfl, hv3, hg3⟩
        have HV3 : Hid (VN w3 w.heap.size v3 (a ^ (j + 2 ^ t)) (L * 1024 + 1)) := by
          have h := hv3.base HG.out.size
          rw [← Nat.pow_add] at h
          exact h.small' (Nat.le_trans (limbs_pow_len HLA.out _) (pow_bound hjt.out))
        have HG3 := hid (HG.out.trans hg3)
        have HB3 := hid (HB.out.gr hg3)
        clear hv3 hg3
        go_wp2_with fail
        refine (mul_c w3 _ _ _ _ _ _ HB3.out.an HB3.out.an HM.out HM.out).mono ?_
        rintro e w4 ⟨v4, rfl, hv4, hg4⟩
        have HV4 : Hid (VN w4 w.heap.size v4 (a ^ 2 ^ (t + 1)) (L * 1024 + 1)) := by
          have h := hv4.base HG3.out.size
          rw [hsq.out] at h
          exact h.small' (Nat.le_trans (limbs_pow_len HLA.out _) (pow_bound (by rw [e2.out]; have := hKT.out; omega)))
        have HG4 := hid (HG3.out.trans hg4)
        have HV34 := hid (HV3.out.gr hg4)
        clear hv4 hg4
        go_wp2
        go_roundw
        case rel => exact ⟨K / 2, by omega, rfl, t + 1, j + 2 ^ t, HV34.out, HV4.out, by rw [e2.out]; exact PwIn.half' HE.out hodd, by rw [e2.out]; have := hKT.out; omega, HG4.out⟩
        case measure => simp [intOf]; omega
      · have q2 : ((K : Int).tmod 2 == 1) = false := by rw [Int.tmod_eq_emod_of_nonneg (by omega), beq_eq_false_iff_ne]; omega
        go_wp2_with fail
        refine (mul_c wr _ _ _ _ _ _ HB.out.an HB.out.an HM.out HM.out).mono ?_
        rintro e w4 ⟨v4, rfl, hv4, hg4⟩
        have HV4 : Hid (VN w4 w.heap.size v4 (a ^ 2 ^ (t + 1)) (L * 1024 + 1)) := by
          have h := hv4.base HG.out.size
          rw [hsq.out] at h
          exact h.small' (Nat.le_trans (limbs_pow_len HLA.out _) (pow_bound (by rw [e2.out]; have := hKT.out; omega)))
        have HG4 := hid (HG.out.trans hg4)
        have HV34 := hid (HP.out.gr hg4)
        clear hv4 hg4
        go_wp2
        go_roundw
        case rel => exact ⟨K / 2, by omega, rfl, t + 1, j, HV34.out, HV4.out, by rw [e2.out]; exact PwIn.half HE.out (by omega), by rw [e2.out]; have := hKT.out; omega, HG4.out⟩
        case measure => simp [intOf]; omega
    · obtain rfl : K = 0 := by omega
      have hj : j = m := by have := HE.out; rw [Nat.zero_mul] at this; exact this
      have HJ := hid hj
      clear hj
      go_wp2
      go_ret2
      exact ⟨_, rfl, by rw [← HJ.out]; exact HP.out, HG.out⟩
/-- The value that Uint gives, and whether it fits. -/
def uN (n : Nat) : Int := if n < 18446744073709551616 then n else 0
def uB (n : Nat) : Bool := decide (n < 18446744073709551616)
theorem small_len {n : Nat} : n < 18446744073709551616 ↔ (limbs n).length ≤ 2 := by
  constructor
  · intro h; exact limbs_length_le (k := 2) h
  · intro h
    have h2 := val_lt (limbs_lim n)
    rw [val_limbs] at h2
    exact Nat.lt_of_lt_of_le h2 (Nat.pow_le_pow_right (n := 4294967296) (by decide) h)

set_option maxHeartbeats 4000000 in
theorem uint_c (w : World) (v1 : Value) (n L : Nat) (h1 : AN w v1 n L) (hL : L ≤ 1099511627776) :
    Calls Tryd.prog 21 #[v1] w (Is w (.tuple #[.int .u64 (uN n), .bool (uB n)])) := by
  obtain ⟨A1, c1, xs, rfl, hr1, rfl, hl1⟩ := h1
  have T1 := hr1.trim
  obtain ⟨x, hx⟩ : ∃ x, x = limbs (val xs) := ⟨_, rfl⟩
  have hs := small_len (n := val xs)
  have hv : val x = val xs := by rw [hx, val_limbs]
  rw [← hx] at T1 hs
  obtain ⟨U, hU⟩ : ∃ u, u = uN (val xs) := ⟨_, rfl⟩
  obtain ⟨B, hB⟩ : ∃ b, b = uB (val xs) := ⟨_, rfl⟩
  rw [← hU, ← hB]
  have hU2 : U = if x.length ≤ 2 then (val x : Int) else 0 := by
    rw [hU, hv]
    unfold uN
    by_cases h : x.length ≤ 2
    · rw [if_pos h, if_pos (hs.2 h)]
    · rw [if_neg h, if_neg (fun h2 => h (hs.1 h2))]
  have hB2 : B = decide (x.length ≤ 2) := by
    rw [hB]
    unfold uB
    rw [decide_eq_decide]
    exact hs
  have HU := hid hU2
  have HB := hid hB2
  have R1 := hid hr1
  have L1 := hid (show xs.length ≤ 4398046511104 by omega)
  have HX := hid hx
  have C1 := hid T1.cells
  have HLM := hid T1.lim
  clear hr1 hl1 hL T1 hx hs hv hU hB hU2 hB2
  by_cases hlen : (2 : Int) < x.length
  · have hB0 : B = false := by rw [HB.out]; exact decide_eq_false (by omega)
    have hU0 : U = 0 := by rw [HU.out, if_neg (by omega)]
    have HB0 := hid hB0
    have HU0 := hid hU0
    clear hB0 hU0
    go_enter Tryd.func21, Tryd.ntmps21
    go_wp2_with fail
    refine (trim_c _ _ _ _ R1.out L1.out).mono ?_
    rw [← HX.out]
    rintro e w' ⟨rfl, rfl⟩
    go_wp2
    go_ret2
    exact ⟨by rw [HB0.out, HU0.out]; rfl, Gr.refl _⟩
  · have hB0 : B = true := by rw [HB.out]; exact decide_eq_true (by omega)
    have hU0 : U = (val x : Int) := by rw [HU.out, if_pos (by omega)]
    have HB0 := hid hB0
    have HU0 := hid hU0
    clear hB0 hU0
    go_enter Tryd.func21, Tryd.ntmps21
    go_wp2_with fail
    refine (trim_c _ _ _ _ R1.out L1.out).mono ?_
    rw [← HX.out]
    rintro e w' ⟨rfl, rfl⟩
    go_wp2
    go_loop [5, 15] (fun v i => ∃ k : Nat, k ≤ x.length ∧ i = .int .i64 k ∧ Hid (v = .int .u64 (val (x.take k) : Nat))) (fun _ i => x.length - (intOf i).toNat)
    case atStart => exact ⟨0, Nat.zero_le _, rfl, rfl⟩
    case round =>
      obtain ⟨k, hk, rfl, HV⟩ := hrel
      by_cases hlt : k < x.length
      · obtain ⟨g1, o1, rfl, hcl⟩ := C1.out (by omega)
        have hcx : w.cell? ⟨g1, o1 + k, none⟩ = some (.int .u32 (x.getD k 0)) := hcl k hlt
        have hp := HLM.out.get k
        obtain ⟨p, hpe⟩ : ∃ p, p = x.getD k 0 := ⟨_, rfl⟩
        rw [← hpe] at hcx hp
        obtain ⟨hp0, hp1⟩ := hp
        obtain ⟨u, hu⟩ : ∃ u : Int, u = (val (x.take k) : Nat) := ⟨_, rfl⟩
        have HVE := HV.out
        rw [← hu] at HVE
        subst HVE
        have hval : ((val (x.take (k + 1)) : Nat) : Int) = u + p * 4294967296 ^ k := by
          rw [hu, hpe, val_take_succ x k hlt]
          have h3 := HLM.out.get k
          have hpw : ((4294967296 ^ k : Nat) : Int) = 4294967296 ^ k := by rw [Int.natCast_pow]; rfl
          rw [Int.natCast_add, Int.natCast_mul, hpw, Int.toNat_of_nonneg h3.1, Int.mul_comm]
        have HVAL := hid hval
        rcases (show k = 0 ∨ k = 1 by omega) with rfl | rfl
        · have hu0 : u = 0 := by rw [hu]; rfl
          subst hu0
          have hor := or_low 0 p (by decide) (by decide) (by decide) hp0 (by omega)
          rw [Nat.add_zero] at hcx
          clear hu hpe hcl hval HV
          go_wp2
          go_round
          case rel => exact ⟨1, by omega, by go_num, by rw [HVAL.out]; simp; exact hid trivial⟩
          case measure => simp [intOf]; omega
        · have hu1 : 0 ≤ u ∧ u < 4294967296 := by
            rw [hu]
            have h := val_lt (HLM.out.take 1)
            rw [List.length_take] at h
            have h2 : (4294967296 : Nat) ^ min 1 x.length ≤ 4294967296 ^ 1 := Nat.pow_le_pow_right (by decide) (by omega)
            omega
          have hor := or_high (p * 4294967296) u (by omega) (by omega) (by omega) hu1.1 hu1.2
          clear hu hpe hcl hval HV
          go_wp2
          go_round
          case rel => exact ⟨2, by omega, by go_num, by rw [HVAL.out]; simp; exact hid trivial⟩
          case measure => simp [intOf]; omega
      · have hkl : k = x.length := by omega
        have HVE := HV.out
        rw [hkl, List.take_length] at HVE
        subst HVE
        have HKL := hid hkl
        clear hkl HV
        go_wp2
        go_ret2
        exact ⟨by rw [HB0.out, HU0.out]; rfl, Gr.refl _⟩
end Go.Proofs.YtkbgdiejjabdmaaDoor
