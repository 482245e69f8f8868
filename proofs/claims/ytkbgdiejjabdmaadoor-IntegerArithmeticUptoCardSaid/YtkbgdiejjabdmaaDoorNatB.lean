/- The walks of nat.Cmp, Bits and Uint, as numbers. -/
import Derived.Test.YtkbgdiejjabdmaaDoorNatA
import Derived.Test.YtkbgdiejjabdmaaDoorShelf
import Derived.Lib.ItoaNum
import Derived.Deep.QuietTactic
import Derived.BigQuiet
namespace Go.Proofs.YtkbgdiejjabdmaaDoor
open Go.RowKit

def CmpSt (x y : List Int) (k : Nat) : Prop := ∀ j, k ≤ j → j < x.length → x.getD j 0 = y.getD j 0

set_option maxHeartbeats 1000000 in
theorem cmp_c (w : World) (v1 v2 : Value) (m n L : Nat) (h1 : AN w v1 m L) (h2 : AN w v2 n L) (hL : L ≤ 1099511627776) :
    Calls Tryd.prog 25 #[v1, v2] w (Is w (.int .i64 (cmpN m n))) := by
  obtain ⟨A1, c1, xs, rfl, hr1, rfl, hl1⟩ := h1
  obtain ⟨A2, c2, ys, rfl, hr2, rfl, hl2⟩ := h2
  have T1 := hr1.trim
  have T2 := hr2.trim
  obtain ⟨x, hx⟩ : ∃ x, x = limbs (val xs) := ⟨_, rfl⟩
  obtain ⟨y, hy⟩ : ∃ y, y = limbs (val ys) := ⟨_, rfl⟩
  have b1 : x.length ≤ 1099511627776 := by have := limbs_val_le hr1.lim; rw [hx]; omega
  have b2 : y.length ≤ 1099511627776 := by have := limbs_val_le hr2.lim; rw [hy]; omega
  rw [← hx] at T1
  rw [← hy] at T2
  have R1 := hid hr1
  have R2 := hid hr2
  have L1 := hid (show xs.length ≤ 1099511627776 by omega)
  have L2 := hid (show ys.length ≤ 1099511627776 by omega)
  have HX := hid hx
  have HY := hid hy
  have HT1 := hid T1
  have HT2 := hid T2
  clear hr1 hr2 hl1 hl2 hL T1 T2 hx hy
  by_cases hlt : x.length < y.length
  · have hne : ((x.length : Int) != (y.length : Int)) = true := by rw [bne_iff_ne]; omega
    have hr : cmpN (val xs) (val ys) = -1 := by
      unfold cmpN
      rw [if_pos (lt_of_limbs (by rw [← HX.out, ← HY.out]; exact hlt))]
    rw [hr]
    clear hr
    go_enter Tryd.func25, Tryd.ntmps25
    go_wp2_with fail
    refine (trim_c _ _ _ _ R1.out (Nat.le_trans L1.out (by decide))).mono ?_
    rw [← HX.out]
    rintro e w' ⟨rfl, rfl⟩
    go_wp2_with fail
    refine (trim_c _ _ _ _ R2.out (Nat.le_trans L2.out (by decide))).mono ?_
    rw [← HY.out]
    rintro e w' ⟨rfl, rfl⟩
    go_wp2
    go_ret
    exact ⟨rfl, Gr.refl _⟩
  by_cases hgt : y.length < x.length
  · have hne : ((x.length : Int) != (y.length : Int)) = true := by rw [bne_iff_ne]; omega
    have hr : cmpN (val xs) (val ys) = 1 := by
      have : val ys < val xs := lt_of_limbs (by rw [← HX.out, ← HY.out]; exact hgt)
      unfold cmpN
      rw [if_neg (by omega), if_pos this]
    rw [hr]
    clear hr
    go_enter Tryd.func25, Tryd.ntmps25
    go_wp2_with fail
    refine (trim_c _ _ _ _ R1.out (Nat.le_trans L1.out (by decide))).mono ?_
    rw [← HX.out]
    rintro e w' ⟨rfl, rfl⟩
    go_wp2_with fail
    refine (trim_c _ _ _ _ R2.out (Nat.le_trans L2.out (by decide))).mono ?_
    rw [← HY.out]
    rintro e w' ⟨rfl, rfl⟩
    go_wp2
    go_ret
    exact ⟨rfl, Gr.refl _⟩
  have hlen : x.length = y.length := by omega
  have HLEN := hid hlen
  obtain ⟨n, hn⟩ : ∃ n, n = x.length := ⟨_, rfl⟩
  rw [← hn] at hlen b1
  have HN := hid hn
  clear hlt hgt b2
  have hne : ((n : Int) != (n : Int)) = false := by simp
  have e1 := hid (show x.length = n from hn.symm)
  have e2 := hid (show y.length = n from hlen.symm)
  clear hn hlen
  have hv1 : val xs = val x := by rw [HX.out, val_limbs]
  have hv2 : val ys = val y := by rw [HY.out, val_limbs]
  rw [hv1, hv2]
  clear hv1 hv2
  have C1 := hid HT1.out.cells
  have C2 := hid HT2.out.cells
  go_enter Tryd.func25, Tryd.ntmps25
  go_wp2_with fail
  refine (trim_c _ _ _ _ R1.out (Nat.le_trans L1.out (by decide))).mono ?_
  rw [← HX.out, e1.out]
  rintro e w' ⟨rfl, rfl⟩
  go_wp2_with fail
  refine (trim_c _ _ _ _ R2.out (Nat.le_trans L2.out (by decide))).mono ?_
  rw [← HY.out, e2.out]
  rintro e w' ⟨rfl, rfl⟩
  go_wp2
  go_loopw [7] (fun i wr => ∃ k : Nat, k ≤ n ∧ i = .int .i64 ((k : Int) - 1) ∧ Hid (CmpSt x y k) ∧ Dr w wr) (fun i _ => (intOf i + 1).toNat)
  case atStart => exact ⟨n, Nat.le_refl _, rfl, fun j h1 h2 => by have := e1.out; omega, Dr.refl _⟩
  case round =>
    obtain ⟨k, hk, rfl, HS, d, rfl⟩ := hrel
    by_cases hk0 : 0 < k
    · obtain ⟨g1, o1, rfl, hc1⟩ := C1.out (by have := e1.out; omega)
      obtain ⟨g2, o2, rfl, hc2⟩ := C2.out (by have := e2.out; omega)
      have hx1 : w.cell? ⟨g1, o1 + (k - 1), none⟩ = some (.int .u32 (x.getD (k - 1) 0)) := hc1 _ (by have := e1.out; omega)
      have hx2 : w.cell? ⟨g2, o2 + (k - 1), none⟩ = some (.int .u32 (y.getD (k - 1) 0)) := hc2 _ (by have := e2.out; omega)
      obtain ⟨p, hp⟩ : ∃ p, p = x.getD (k - 1) 0 := ⟨_, rfl⟩
      obtain ⟨q, hq⟩ : ∃ q, q = y.getD (k - 1) 0 := ⟨_, rfl⟩
      rw [← hp] at hx1
      rw [← hq] at hx2
      have HP := hid hp
      have HQ := hid hq
      clear hp hq hc1 hc2
      have i0 : 0 ≤ (k : Int) - 1 := by omega
      have i1 : (k : Int) - 1 < n := by omega
      have i2 : ((k : Int) - 1).toNat = k - 1 := by omega
      by_cases hpq : p < q
      · have hval : val x < val y := val_lt_of_limb HT1.out.lim HT2.out.lim HLEN.out (i := k - 1) (by have := e1.out; omega) (fun j h1 h2 => HS.out j (by omega) h2) (by rw [← HP.out, ← HQ.out]; exact hpq)
        have hr : cmpN (val x) (val y) = -1 := by unfold cmpN; rw [if_pos hval]
        have HR := hid hr
        clear hr hval
        go_wp2
        go_quiet (fail)
        go_wp2
        go_ret
        exact ⟨by rw [HR.out]; rfl, Dr.gr (by repeat (first | exact Dr.refl _ | refine Dr.next ?_ _ | exact ⟨_, rfl⟩))⟩
      by_cases hqp : q < p
      · have hval : val y < val x := val_lt_of_limb HT2.out.lim HT1.out.lim HLEN.out.symm (i := k - 1) (by have := e2.out; omega) (fun j h1 h2 => (HS.out j (by omega) (by have := HLEN.out; omega)).symm) (by rw [← HP.out, ← HQ.out]; exact hqp)
        have hr : cmpN (val x) (val y) = 1 := by unfold cmpN; rw [if_neg (by omega), if_pos hval]
        have HR := hid hr
        clear hr hval
        go_wp2
        go_quiet (fail)
        go_wp2
        go_quiet (fail)
        go_wp2
        go_ret
        exact ⟨by rw [HR.out]; rfl, Dr.gr (by repeat (first | exact Dr.refl _ | refine Dr.next ?_ _ | exact ⟨_, rfl⟩))⟩
      · go_wp2
        go_quiet (fail)
        go_wp2
        go_quiet (fail)
        go_wp2
        refine ⟨⟨k - 1, by omega, by go_num, fun j h1 h2 => ?_, by repeat (first | exact Dr.refl _ | refine Dr.next ?_ _ | exact ⟨_, rfl⟩)⟩, by simp [intOf]; omega⟩
        by_cases hjk : j = k - 1
        · subst hjk; rw [← HP.out, ← HQ.out]; omega
        · exact HS.out j (by omega) h2
    · obtain rfl : k = 0 := by omega
      have hxy : x = y := eq_of_getD HLEN.out (fun j hj => HS.out j (by omega) hj)
      have hr : cmpN (val x) (val y) = 0 := by rw [hxy]; unfold cmpN; simp
      have HR := hid hr
      clear hr hxy
      go_wp2
      go_ret
      exact ⟨by rw [HR.out]; rfl, Dr.gr (by repeat (first | exact Dr.refl _ | refine Dr.next ?_ _ | exact ⟨_, rfl⟩))⟩

set_option maxHeartbeats 400000 in
theorem bits_c (w : World) (v1 : Value) (n L : Nat) (h1 : AN w v1 n L) (hL : L ≤ 1099511627776) :
    Calls Tryd.prog 23 #[v1] w (Is w (.int .i64 (bitsN n))) := by
  obtain ⟨A, c, xs, rfl, hr, rfl, hl⟩ := h1
  have T := hr.trim
  obtain ⟨x, hx⟩ : ∃ x, x = limbs (val xs) := ⟨_, rfl⟩
  rw [← hx] at T
  have R := hid hr
  have LL := hid (show xs.length ≤ 1099511627776 by omega)
  have b1 : x.length ≤ 1099511627776 := by have := limbs_val_le hr.lim; rw [hx]; omega
  have HX := hid hx
  have HT := hid T
  clear hr hl hL T hx
  obtain ⟨k, hk⟩ : ∃ k, k = x.length := ⟨_, rfl⟩
  rw [← hk] at b1
  have HK := hid hk
  clear hk
  by_cases h0 : k = 0
  · subst h0
    have hv : bitsN (val xs) = 0 := by
      rw [bitsN_zero, ← limbs_nil, ← HX.out]
      exact List.eq_nil_of_length_eq_zero HK.out.symm
    rw [hv]
    clear hv
    go_enter Tryd.func23, Tryd.ntmps23
    go_wp2_with fail
    refine (trim_c _ _ _ _ R.out (Nat.le_trans LL.out (by decide))).mono ?_
    rw [← HX.out, ← HK.out]
    rintro e w' ⟨rfl, rfl⟩
    go_wp2
    go_ret
    exact ⟨rfl, Gr.refl _⟩
  · obtain ⟨m, rfl⟩ : ∃ m, k = m + 1 := ⟨k - 1, by omega⟩
    clear h0
    have htop : x.getD m 0 ≠ 0 := by rw [HX.out]; exact limbs_top (by rw [← HX.out]; exact HK.out.symm)
    have hg := HT.out.lim.get m
    obtain ⟨g, o, rfl, hc⟩ := HT.out.cells (by have := HK.out; omega)
    have hcx : w.cell? ⟨g, o + m, none⟩ = some (.int .u32 (x.getD m 0)) := hc m (by have := HK.out; omega)
    clear hc
    obtain ⟨p, hp⟩ : ∃ p, p = x.getD m 0 := ⟨_, rfl⟩
    rw [← hp] at hcx htop hg
    obtain ⟨b1', b2', b3'⟩ := Lib.bitLenAux_bounds 64 p.toNat (by omega) (by omega)
    have hb32 : Lib.bitLen p.toNat ≤ 32 := Lib.bitLen_le p.toNat 32 (by omega) (by omega)
    have hv : bitsN (val xs) = 32 * m + Lib.bitLen p.toNat := by
      have hvv : val xs = val x := by rw [HX.out, val_limbs]
      have := bitsN_top (b := Lib.bitLen p.toNat - 1) HT.out.lim (k := m) HK.out.symm (by rw [← hp]; exact b2') (by rw [← hp]; rw [show Lib.bitLen p.toNat - 1 + 1 = Lib.bitLen p.toNat from by unfold Lib.bitLen; omega]; exact b3')
      rw [hvv, this]
      unfold Lib.bitLen at *
      omega
    have HV := hid hv
    have G0 := hid hg.1
    have G1 := hid hg.2
    have H32 := hid hb32
    obtain ⟨q, hq⟩ : ∃ q, q = Lib.bitLen p.toNat := ⟨_, rfl⟩
    have HQ := hid hq
    clear hv hg hp htop b1' b2' b3' hb32 hq
    have hq32 : q ≤ 32 := by rw [HQ.out]; exact H32.out
    have hne : ((m : Int) + 1 == 0) = false := by rw [beq_eq_false_iff_ne]; omega
    go_enter Tryd.func23, Tryd.ntmps23
    go_wp2_with fail
    refine (trim_c _ _ _ _ R.out (Nat.le_trans LL.out (by decide))).mono ?_
    rw [← HX.out, ← HK.out]
    rintro e w' ⟨rfl, rfl⟩
    go_wp2_with fail
    refine (Tryd.bits_Len32 _ _ G0.out G1.out).mono ?_
    rw [← HQ.out]
    rintro e w' ⟨rfl, rfl⟩
    go_wp2
    go_ret
    refine ⟨?_, Gr.refl _⟩
    rw [HV.out, ← HQ.out]
    show Ending.returned (.int .i64 _) = _
    congr 2
end Go.Proofs.YtkbgdiejjabdmaaDoor
