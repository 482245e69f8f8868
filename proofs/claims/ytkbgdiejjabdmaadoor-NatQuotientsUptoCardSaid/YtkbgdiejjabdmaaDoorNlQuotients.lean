/- The walks of the laws of nat: DivMod, Gcd. -/
import Derived.Test.YtkbgdiejjabdmaaDoorAwA
import Derived.Test.YtkbgdiejjabdmaaDoorRfF
namespace Go.Proofs.YtkbgdiejjabdmaaDoor
open Go.RowKit

set_option maxRecDepth 100000 in
set_option maxHeartbeats 8000000 in
theorem natquotients_law (W : World) (ht : Tab W) {v1 : Value} {a : Nat} (h1 : AN W v1 a 1048576) {v2 : Value} {b : Nat} (h2 : AN W v2 b 1048576) : Calls Tryd.prog 5 #[v1, v2] W (Is W (.bool true)) := by
  have HT := hid ht
  have H1 := hid h1
  have H2 := hid h2
  clear ht h1 h2
  by_cases hb : b = 0
  · have HB0 := hid hb
    clear hb
    go_enter Tryd.func5, Tryd.ntmps5
    go_wp2_with fail
    refine (divMod_c0 W _ _ a b 1048576 H1.out H2.out (by decide) HB0.out).mono ?_
    rintro e w1 ⟨rfl, hg⟩
    replace H1 := hid (H1.out.gr hg)
    replace H2 := hid (H2.out.gr hg)
    have HG := hid hg
    clear hg
    go_wp2_with fail
    refine (xdivmod_c0 w1 _ _ a b 1048576 H1.out H2.out (by decide) HB0.out).mono ?_
    rintro e w2 ⟨rfl, hg⟩
    replace H1 := hid (H1.out.gr hg)
    replace H2 := hid (H2.out.gr hg)
    replace HG := hid (HG.out.trans hg)
    clear hg
    go_wp2_with fail
    refine (xsame_t w2 _ _ _ _ 0 1 (VN.zero w2 0 none 0 1) (VN.zero w2 0 none 0 1) (by decide)).mono ?_
    rintro e w3 ⟨rfl, hg⟩
    replace H1 := hid (H1.out.gr hg)
    replace H2 := hid (H2.out.gr hg)
    replace HG := hid (HG.out.trans hg)
    clear hg
    go_wp2_with fail
    refine (xsame_t w3 _ _ _ _ 0 1 (VN.zero w3 0 none 0 1) (VN.zero w3 0 none 0 1) (by decide)).mono ?_
    rintro e w4 ⟨rfl, hg⟩
    replace H1 := hid (H1.out.gr hg)
    replace H2 := hid (H2.out.gr hg)
    replace HG := hid (HG.out.trans hg)
    clear hg
    go_wp2_with fail
    refine (gcd_c w4 _ _ a b 1048576 H1.out H2.out (by decide)).mono ?_
    rintro e w5 ⟨v, rfl, hv, hg⟩
    replace H1 := hid (H1.out.gr hg)
    replace H2 := hid (H2.out.gr hg)
    have HA := hid hv
    replace HG := hid (HG.out.trans hg)
    clear hg hv
    go_wp2_with fail
    refine (xgcd_c w5 _ _ a b 1048576 H1.out H2.out (by decide)).mono ?_
    rintro e w6 ⟨v, rfl, hv, hg⟩
    replace H1 := hid (H1.out.gr hg)
    replace H2 := hid (H2.out.gr hg)
    replace HA := hid (HA.out.gr hg)
    have HB := hid hv
    replace HG := hid (HG.out.trans hg)
    clear hg hv
    go_wp2_with fail
    refine (xsame_t w6 _ _ _ _ (Nat.gcd a b) 1048576 HA.out HB.out (by decide)).mono ?_
    rintro e w7 ⟨rfl, hg⟩
    replace H1 := hid (H1.out.gr hg)
    replace H2 := hid (H2.out.gr hg)
    replace HA := hid (HA.out.gr hg)
    replace HB := hid (HB.out.gr hg)
    replace HG := hid (HG.out.trans hg)
    clear hg
    clear HA
    clear HB
    go_wp2_with fail
    refine (awake_c w7 (HT.out.gr HG.out)).mono ?_
    rintro e w8 ⟨rfl, hg⟩
    replace H1 := hid (H1.out.gr hg)
    replace H2 := hid (H2.out.gr hg)
    replace HG := hid (HG.out.trans hg)
    clear hg
    go_wp2
    go_ret
    exact ⟨rfl, HG.out⟩
  · have HB0 : Hid (0 < b) := by unfold Hid; omega
    clear hb
    go_enter Tryd.func5, Tryd.ntmps5
    go_wp2_with fail
    refine (divMod_c W _ _ a b 1048576 H1.out H2.out (by decide) HB0.out).mono ?_
    rintro e w1 ⟨u, v, rfl, ⟨hv1, hv2⟩, hg⟩
    replace H1 := hid (H1.out.gr hg)
    replace H2 := hid (H2.out.gr hg)
    have HA := hid hv1
    have HB := hid hv2
    have HG := hid hg
    clear hg hv1 hv2
    go_wp2_with fail
    refine (xdivmod_c w1 _ _ a b 1048576 H1.out H2.out (by decide) HB0.out).mono ?_
    rintro e w2 ⟨u2, v2, rfl, ⟨hv1, hv2⟩, hg⟩
    replace H1 := hid (H1.out.gr hg)
    replace H2 := hid (H2.out.gr hg)
    replace HA := hid (HA.out.gr hg)
    replace HB := hid (HB.out.gr hg)
    have HC := hid hv1
    have HD := hid hv2
    replace HG := hid (HG.out.trans hg)
    clear hg hv1 hv2
    go_wp2_with fail
    refine (xsame_t w2 _ _ _ _ (a / b) 1048576 HA.out HC.out (by decide)).mono ?_
    rintro e w3 ⟨rfl, hg⟩
    replace H1 := hid (H1.out.gr hg)
    replace H2 := hid (H2.out.gr hg)
    replace HA := hid (HA.out.gr hg)
    replace HB := hid (HB.out.gr hg)
    replace HC := hid (HC.out.gr hg)
    replace HD := hid (HD.out.gr hg)
    replace HG := hid (HG.out.trans hg)
    clear hg
    go_wp2_with fail
    refine (xsame_t w3 _ _ _ _ (a % b) 1048576 HB.out HD.out (by decide)).mono ?_
    rintro e w4 ⟨rfl, hg⟩
    replace H1 := hid (H1.out.gr hg)
    replace H2 := hid (H2.out.gr hg)
    replace HA := hid (HA.out.gr hg)
    replace HB := hid (HB.out.gr hg)
    replace HC := hid (HC.out.gr hg)
    replace HD := hid (HD.out.gr hg)
    replace HG := hid (HG.out.trans hg)
    clear hg
    clear HA
    clear HB
    clear HC
    clear HD
    go_wp2_with fail
    refine (gcd_c w4 _ _ a b 1048576 H1.out H2.out (by decide)).mono ?_
    rintro e w5 ⟨v, rfl, hv, hg⟩
    replace H1 := hid (H1.out.gr hg)
    replace H2 := hid (H2.out.gr hg)
    have HA := hid hv
    replace HG := hid (HG.out.trans hg)
    clear hg hv
    go_wp2_with fail
    refine (xgcd_c w5 _ _ a b 1048576 H1.out H2.out (by decide)).mono ?_
    rintro e w6 ⟨v, rfl, hv, hg⟩
    replace H1 := hid (H1.out.gr hg)
    replace H2 := hid (H2.out.gr hg)
    replace HA := hid (HA.out.gr hg)
    have HB := hid hv
    replace HG := hid (HG.out.trans hg)
    clear hg hv
    go_wp2_with fail
    refine (xsame_t w6 _ _ _ _ (Nat.gcd a b) 1048576 HA.out HB.out (by decide)).mono ?_
    rintro e w7 ⟨rfl, hg⟩
    replace H1 := hid (H1.out.gr hg)
    replace H2 := hid (H2.out.gr hg)
    replace HA := hid (HA.out.gr hg)
    replace HB := hid (HB.out.gr hg)
    replace HG := hid (HG.out.trans hg)
    clear hg
    clear HA
    clear HB
    go_wp2_with fail
    refine (awake_c w7 (HT.out.gr HG.out)).mono ?_
    rintro e w8 ⟨rfl, hg⟩
    replace H1 := hid (H1.out.gr hg)
    replace H2 := hid (H2.out.gr hg)
    replace HG := hid (HG.out.trans hg)
    clear hg
    go_wp2
    go_ret
    exact ⟨rfl, HG.out⟩
end Go.Proofs.YtkbgdiejjabdmaaDoor
