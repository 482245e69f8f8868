/- The walks of the laws of nat: the greatest common divisor. -/
import Derived.Test.YtkbgdiejjabdmaaDoorAwA
namespace Go.Proofs.YtkbgdiejjabdmaaDoor
open Go.RowKit

set_option maxRecDepth 100000 in
set_option maxHeartbeats 8000000 in
theorem natdivisors_law (W : World) (ht : Tab W) {v1 : Value} {a : Nat} (h1 : AN W v1 a 1048576) {v2 : Value} {b : Nat} (h2 : AN W v2 b 1048576) {v3 : Value} {c : Nat} (h3 : AN W v3 c 1048576) : Calls Tryd.prog 9 #[v1, v2, v3] W (Is W (.bool true)) := by
  have HT := hid ht
  have H1 := hid h1
  have H2 := hid h2
  have H3 := hid h3
  clear ht h1 h2 h3
  by_cases hg0 : Nat.gcd a b = 0
  · have HA0 := hid (Nat.eq_zero_of_gcd_eq_zero_left hg0)
    have HB0 := hid (Nat.eq_zero_of_gcd_eq_zero_right hg0)
    have HG0 := hid hg0
    clear hg0
    go_enter Tryd.func9, Tryd.ntmps9
    go_wp2_with fail
    refine (gcd_c W _ _ a b 1048576 H1.out H2.out (by decide)).mono ?_
    rintro e w1 ⟨g, rfl, hv, hg⟩
    replace H1 := hid (H1.out.gr hg)
    replace H2 := hid (H2.out.gr hg)
    replace H3 := hid (H3.out.gr hg)
    have HGC := hid hv
    have HG := hid hg
    clear hg hv
    go_wp2_with fail
    refine (mul_c w1 _ _ a c 1048576 1048576 H1.out H3.out (by decide) (by decide)).mono ?_
    rintro e w2 ⟨v, rfl, hv, hg⟩
    replace H1 := hid (H1.out.gr hg)
    replace H2 := hid (H2.out.gr hg)
    replace H3 := hid (H3.out.gr hg)
    replace HGC := hid (HGC.out.gr hg)
    have HX := hid hv
    replace HG := hid (HG.out.trans hg)
    clear hg hv
    go_wp2_with fail
    refine (mul_c w2 _ _ b c 1048576 1048576 H2.out H3.out (by decide) (by decide)).mono ?_
    rintro e w3 ⟨v, rfl, hv, hg⟩
    replace H1 := hid (H1.out.gr hg)
    replace H2 := hid (H2.out.gr hg)
    replace H3 := hid (H3.out.gr hg)
    replace HGC := hid (HGC.out.gr hg)
    replace HX := hid (HX.out.gr hg)
    have HY := hid hv
    replace HG := hid (HG.out.trans hg)
    clear hg hv
    go_wp2_with fail
    refine (gcd_c w3 _ _ (a * c) (b * c) 2097152 HX.out.an HY.out.an (by decide)).mono ?_
    rintro e w4 ⟨v, rfl, hv, hg⟩
    replace H1 := hid (H1.out.gr hg)
    replace H2 := hid (H2.out.gr hg)
    replace H3 := hid (H3.out.gr hg)
    replace HGC := hid (HGC.out.gr hg)
    replace HX := hid (HX.out.gr hg)
    replace HY := hid (HY.out.gr hg)
    have HZ := hid hv
    replace HG := hid (HG.out.trans hg)
    clear hg hv
    go_wp2_with fail
    refine (mul_c w4 _ _ (Nat.gcd a b) c 1048576 1048576 HGC.out.an H3.out (by decide) (by decide)).mono ?_
    rintro e w5 ⟨v, rfl, hv, hg⟩
    replace H1 := hid (H1.out.gr hg)
    replace H2 := hid (H2.out.gr hg)
    replace H3 := hid (H3.out.gr hg)
    replace HGC := hid (HGC.out.gr hg)
    replace HX := hid (HX.out.gr hg)
    replace HY := hid (HY.out.gr hg)
    replace HZ := hid (HZ.out.gr hg)
    have HU := hid hv
    replace HG := hid (HG.out.trans hg)
    clear hg hv
    go_wp2_with fail
    refine (xsame_t w5 _ _ _ _ (Nat.gcd a b * c) 2097152 (by have h := HZ.out; rw [Nat.gcd_mul_right] at h; exact h) HU.out (by decide)).mono ?_
    rintro e w6 ⟨rfl, hg⟩
    replace H1 := hid (H1.out.gr hg)
    replace H2 := hid (H2.out.gr hg)
    replace H3 := hid (H3.out.gr hg)
    replace HGC := hid (HGC.out.gr hg)
    replace HX := hid (HX.out.gr hg)
    replace HY := hid (HY.out.gr hg)
    replace HZ := hid (HZ.out.gr hg)
    replace HU := hid (HU.out.gr hg)
    replace HG := hid (HG.out.trans hg)
    clear hg
    clear HX
    clear HY
    clear HZ
    clear HU
    go_wp2_with fail
    refine (gcd_c w6 _ _ b a 1048576 H2.out H1.out (by decide)).mono ?_
    rintro e w7 ⟨v, rfl, hv, hg⟩
    replace H1 := hid (H1.out.gr hg)
    replace H2 := hid (H2.out.gr hg)
    replace H3 := hid (H3.out.gr hg)
    replace HGC := hid (HGC.out.gr hg)
    have HX := hid hv
    replace HG := hid (HG.out.trans hg)
    clear hg hv
    go_wp2_with fail
    refine (xsame_t w7 _ _ _ _ (Nat.gcd a b) 1048576 HGC.out (by have h := HX.out; rw [Nat.gcd_comm] at h; exact h) (by decide)).mono ?_
    rintro e w8 ⟨rfl, hg⟩
    replace H1 := hid (H1.out.gr hg)
    replace H2 := hid (H2.out.gr hg)
    replace H3 := hid (H3.out.gr hg)
    replace HGC := hid (HGC.out.gr hg)
    replace HX := hid (HX.out.gr hg)
    replace HG := hid (HG.out.trans hg)
    clear hg
    clear HX
    go_wp2_with fail
    refine (divMod_c0 w8 _ _ a (Nat.gcd a b) 1048576 H1.out HGC.out.an (by decide) HG0.out).mono ?_
    rintro e w9 ⟨rfl, hg⟩
    replace H1 := hid (H1.out.gr hg)
    replace H2 := hid (H2.out.gr hg)
    replace H3 := hid (H3.out.gr hg)
    replace HGC := hid (HGC.out.gr hg)
    replace HG := hid (HG.out.trans hg)
    clear hg
    go_wp2_with fail
    refine (divMod_c0 w9 _ _ b (Nat.gcd a b) 1048576 H2.out HGC.out.an (by decide) HG0.out).mono ?_
    rintro e w10 ⟨rfl, hg⟩
    replace H1 := hid (H1.out.gr hg)
    replace H2 := hid (H2.out.gr hg)
    replace H3 := hid (H3.out.gr hg)
    replace HGC := hid (HGC.out.gr hg)
    replace HG := hid (HG.out.trans hg)
    clear hg
    go_wp2_with fail
    refine ((show Calls Tryd.prog 23 #[_] w10 (Is w10 (.int .i64 0)) by have h := bits_c w10 _ a 1048576 H1.out (by decide); rw [HA0.out] at h; exact h)).mono ?_
    rintro e w11 ⟨rfl, hg⟩
    replace H1 := hid (H1.out.gr hg)
    replace H2 := hid (H2.out.gr hg)
    replace H3 := hid (H3.out.gr hg)
    replace HGC := hid (HGC.out.gr hg)
    replace HG := hid (HG.out.trans hg)
    clear hg
    go_wp2_with fail
    refine ((show Calls Tryd.prog 23 #[_] w11 (Is w11 (.int .i64 0)) by have h := bits_c w11 _ b 1048576 H2.out (by decide); rw [HB0.out] at h; exact h)).mono ?_
    rintro e w12 ⟨rfl, hg⟩
    replace H1 := hid (H1.out.gr hg)
    replace H2 := hid (H2.out.gr hg)
    replace H3 := hid (H3.out.gr hg)
    replace HGC := hid (HGC.out.gr hg)
    replace HG := hid (HG.out.trans hg)
    clear hg
    go_wp2_with fail
    refine (awake_c w12 (HT.out.gr HG.out)).mono ?_
    rintro e w13 ⟨rfl, hg⟩
    replace H1 := hid (H1.out.gr hg)
    replace H2 := hid (H2.out.gr hg)
    replace H3 := hid (H3.out.gr hg)
    replace HGC := hid (HGC.out.gr hg)
    replace HG := hid (HG.out.trans hg)
    clear hg
    go_wp2
    go_ret
    exact ⟨rfl, HG.out⟩
  · have HG0 : Hid (0 < Nat.gcd a b) := by unfold Hid; omega
    have HZB : Hid (∀ (V : World) (x : Value), AN V x 0 1048576 → Calls Tryd.prog 23 #[x] V (Is V (.int .i64 0))) := fun V x h1 => bits_c V x 0 1048576 h1 (by decide)
    have HXA := hid (Nat.mod_eq_zero_of_dvd (Nat.gcd_dvd_left a b))
    have HXB := hid (Nat.mod_eq_zero_of_dvd (Nat.gcd_dvd_right a b))
    clear hg0
    go_enter Tryd.func9, Tryd.ntmps9
    go_wp2_with fail
    refine (gcd_c W _ _ a b 1048576 H1.out H2.out (by decide)).mono ?_
    rintro e w1 ⟨g, rfl, hv, hg⟩
    replace H1 := hid (H1.out.gr hg)
    replace H2 := hid (H2.out.gr hg)
    replace H3 := hid (H3.out.gr hg)
    have HGC := hid hv
    have HG := hid hg
    clear hg hv
    go_wp2_with fail
    refine (mul_c w1 _ _ a c 1048576 1048576 H1.out H3.out (by decide) (by decide)).mono ?_
    rintro e w2 ⟨v, rfl, hv, hg⟩
    replace H1 := hid (H1.out.gr hg)
    replace H2 := hid (H2.out.gr hg)
    replace H3 := hid (H3.out.gr hg)
    replace HGC := hid (HGC.out.gr hg)
    have HX := hid hv
    replace HG := hid (HG.out.trans hg)
    clear hg hv
    go_wp2_with fail
    refine (mul_c w2 _ _ b c 1048576 1048576 H2.out H3.out (by decide) (by decide)).mono ?_
    rintro e w3 ⟨v, rfl, hv, hg⟩
    replace H1 := hid (H1.out.gr hg)
    replace H2 := hid (H2.out.gr hg)
    replace H3 := hid (H3.out.gr hg)
    replace HGC := hid (HGC.out.gr hg)
    replace HX := hid (HX.out.gr hg)
    have HY := hid hv
    replace HG := hid (HG.out.trans hg)
    clear hg hv
    go_wp2_with fail
    refine (gcd_c w3 _ _ (a * c) (b * c) 2097152 HX.out.an HY.out.an (by decide)).mono ?_
    rintro e w4 ⟨v, rfl, hv, hg⟩
    replace H1 := hid (H1.out.gr hg)
    replace H2 := hid (H2.out.gr hg)
    replace H3 := hid (H3.out.gr hg)
    replace HGC := hid (HGC.out.gr hg)
    replace HX := hid (HX.out.gr hg)
    replace HY := hid (HY.out.gr hg)
    have HZ := hid hv
    replace HG := hid (HG.out.trans hg)
    clear hg hv
    go_wp2_with fail
    refine (mul_c w4 _ _ (Nat.gcd a b) c 1048576 1048576 HGC.out.an H3.out (by decide) (by decide)).mono ?_
    rintro e w5 ⟨v, rfl, hv, hg⟩
    replace H1 := hid (H1.out.gr hg)
    replace H2 := hid (H2.out.gr hg)
    replace H3 := hid (H3.out.gr hg)
    replace HGC := hid (HGC.out.gr hg)
    replace HX := hid (HX.out.gr hg)
    replace HY := hid (HY.out.gr hg)
    replace HZ := hid (HZ.out.gr hg)
    have HU := hid hv
    replace HG := hid (HG.out.trans hg)
    clear hg hv
    go_wp2_with fail
    refine (xsame_t w5 _ _ _ _ (Nat.gcd a b * c) 2097152 (by have h := HZ.out; rw [Nat.gcd_mul_right] at h; exact h) HU.out (by decide)).mono ?_
    rintro e w6 ⟨rfl, hg⟩
    replace H1 := hid (H1.out.gr hg)
    replace H2 := hid (H2.out.gr hg)
    replace H3 := hid (H3.out.gr hg)
    replace HGC := hid (HGC.out.gr hg)
    replace HX := hid (HX.out.gr hg)
    replace HY := hid (HY.out.gr hg)
    replace HZ := hid (HZ.out.gr hg)
    replace HU := hid (HU.out.gr hg)
    replace HG := hid (HG.out.trans hg)
    clear hg
    clear HX
    clear HY
    clear HZ
    clear HU
    go_wp2_with fail
    refine (gcd_c w6 _ _ b a 1048576 H2.out H1.out (by decide)).mono ?_
    rintro e w7 ⟨v, rfl, hv, hg⟩
    replace H1 := hid (H1.out.gr hg)
    replace H2 := hid (H2.out.gr hg)
    replace H3 := hid (H3.out.gr hg)
    replace HGC := hid (HGC.out.gr hg)
    have HX := hid hv
    replace HG := hid (HG.out.trans hg)
    clear hg hv
    go_wp2_with fail
    refine (xsame_t w7 _ _ _ _ (Nat.gcd a b) 1048576 HGC.out (by have h := HX.out; rw [Nat.gcd_comm] at h; exact h) (by decide)).mono ?_
    rintro e w8 ⟨rfl, hg⟩
    replace H1 := hid (H1.out.gr hg)
    replace H2 := hid (H2.out.gr hg)
    replace H3 := hid (H3.out.gr hg)
    replace HGC := hid (HGC.out.gr hg)
    replace HX := hid (HX.out.gr hg)
    replace HG := hid (HG.out.trans hg)
    clear hg
    clear HX
    go_wp2_with fail
    refine (divMod_c w8 _ _ a (Nat.gcd a b) 1048576 H1.out HGC.out.an (by decide) HG0.out).mono ?_
    rintro e w9 ⟨u1, x1, rfl, ⟨_, hv⟩, hg⟩
    replace H1 := hid (H1.out.gr hg)
    replace H2 := hid (H2.out.gr hg)
    replace H3 := hid (H3.out.gr hg)
    replace HGC := hid (HGC.out.gr hg)
    have HX := hid hv
    replace HG := hid (HG.out.trans hg)
    clear hg hv
    go_wp2_with fail
    refine (divMod_c w9 _ _ b (Nat.gcd a b) 1048576 H2.out HGC.out.an (by decide) HG0.out).mono ?_
    rintro e w10 ⟨u2, x2, rfl, ⟨_, hv⟩, hg⟩
    replace H1 := hid (H1.out.gr hg)
    replace H2 := hid (H2.out.gr hg)
    replace H3 := hid (H3.out.gr hg)
    replace HGC := hid (HGC.out.gr hg)
    replace HX := hid (HX.out.gr hg)
    have HY := hid hv
    replace HG := hid (HG.out.trans hg)
    clear hg hv
    go_wp2_with fail
    refine (HZB.out w10 _ (by have h := HX.out.an; rw [HXA.out] at h; exact h)).mono ?_
    rintro e w11 ⟨rfl, hg⟩
    replace H1 := hid (H1.out.gr hg)
    replace H2 := hid (H2.out.gr hg)
    replace H3 := hid (H3.out.gr hg)
    replace HGC := hid (HGC.out.gr hg)
    replace HX := hid (HX.out.gr hg)
    replace HY := hid (HY.out.gr hg)
    replace HG := hid (HG.out.trans hg)
    clear hg
    go_wp2_with fail
    refine (HZB.out w11 _ (by have h := HY.out.an; rw [HXB.out] at h; exact h)).mono ?_
    rintro e w12 ⟨rfl, hg⟩
    replace H1 := hid (H1.out.gr hg)
    replace H2 := hid (H2.out.gr hg)
    replace H3 := hid (H3.out.gr hg)
    replace HGC := hid (HGC.out.gr hg)
    replace HX := hid (HX.out.gr hg)
    replace HY := hid (HY.out.gr hg)
    replace HG := hid (HG.out.trans hg)
    clear hg
    go_wp2_with fail
    refine (awake_c w12 (HT.out.gr HG.out)).mono ?_
    rintro e w13 ⟨rfl, hg⟩
    replace H1 := hid (H1.out.gr hg)
    replace H2 := hid (H2.out.gr hg)
    replace H3 := hid (H3.out.gr hg)
    replace HGC := hid (HGC.out.gr hg)
    replace HX := hid (HX.out.gr hg)
    replace HY := hid (HY.out.gr hg)
    replace HG := hid (HG.out.trans hg)
    clear hg
    go_wp2
    go_ret
    exact ⟨rfl, HG.out⟩
end Go.Proofs.YtkbgdiejjabdmaaDoor
