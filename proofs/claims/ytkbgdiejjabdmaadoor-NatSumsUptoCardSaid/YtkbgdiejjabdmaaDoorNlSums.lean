/- The walks of the laws of nat: Add, Sub, Mul. -/
import Derived.Test.YtkbgdiejjabdmaaDoorAwA
import Derived.Test.YtkbgdiejjabdmaaDoorRfC
namespace Go.Proofs.YtkbgdiejjabdmaaDoor
open Go.RowKit

set_option maxRecDepth 100000 in
set_option maxHeartbeats 8000000 in
theorem natsums_law (W : World) (ht : Tab W) {v1 : Value} {a : Nat} (h1 : AN W v1 a 1048576) {v2 : Value} {b : Nat} (h2 : AN W v2 b 1048576) : Calls Tryd.prog 4 #[v1, v2] W (Is W (.bool true)) := by
  have HT := hid ht
  have H1 := hid h1
  have H2 := hid h2
  clear ht h1 h2
  go_enter Tryd.func4, Tryd.ntmps4
  go_wp2_with fail
  refine (sub_c W _ _ a b 1048576 H1.out H2.out (by decide)).mono ?_
  rintro e w1 ⟨v, rfl, hv, hg⟩
  replace H1 := hid (H1.out.gr hg)
  replace H2 := hid (H2.out.gr hg)
  have HA := hid hv
  have HG := hid hg
  clear hg hv
  go_wp2_with fail
  refine (xsub_c w1 _ _ a b 1048576 H1.out H2.out (by decide)).mono ?_
  rintro e w2 ⟨v, rfl, hv, hg⟩
  replace H1 := hid (H1.out.gr hg)
  replace H2 := hid (H2.out.gr hg)
  replace HA := hid (HA.out.gr hg)
  have HB := hid hv
  replace HG := hid (HG.out.trans hg)
  clear hg hv
  go_wp2_with fail
  refine (xsame_t w2 _ _ _ _ (a - b) 1048576 HA.out HB.out (by decide)).mono ?_
  rintro e w3 ⟨rfl, hg⟩
  replace H1 := hid (H1.out.gr hg)
  replace H2 := hid (H2.out.gr hg)
  replace HA := hid (HA.out.gr hg)
  replace HB := hid (HB.out.gr hg)
  replace HG := hid (HG.out.trans hg)
  clear hg
  clear HA
  clear HB
  go_wp2_with fail
  refine (add_c w3 _ _ a b 1048576 H1.out H2.out (by decide)).mono ?_
  rintro e w4 ⟨v, rfl, hv, hg⟩
  replace H1 := hid (H1.out.gr hg)
  replace H2 := hid (H2.out.gr hg)
  have HA := hid hv
  replace HG := hid (HG.out.trans hg)
  clear hg hv
  go_wp2_with fail
  refine (xadd_c w4 _ _ a b 1048576 H1.out H2.out (by decide)).mono ?_
  rintro e w5 ⟨v, rfl, hv, hg⟩
  replace H1 := hid (H1.out.gr hg)
  replace H2 := hid (H2.out.gr hg)
  replace HA := hid (HA.out.gr hg)
  have HB := hid hv
  replace HG := hid (HG.out.trans hg)
  clear hg hv
  go_wp2_with fail
  refine (xsame_t w5 _ _ _ _ (a + b) 1048577 HA.out HB.out (by decide)).mono ?_
  rintro e w6 ⟨rfl, hg⟩
  replace H1 := hid (H1.out.gr hg)
  replace H2 := hid (H2.out.gr hg)
  replace HA := hid (HA.out.gr hg)
  replace HB := hid (HB.out.gr hg)
  replace HG := hid (HG.out.trans hg)
  clear hg
  clear HA
  clear HB
  go_wp2_with fail
  refine (mul_c w6 _ _ a b 1048576 1048576 H1.out H2.out (by decide) (by decide)).mono ?_
  rintro e w7 ⟨v, rfl, hv, hg⟩
  replace H1 := hid (H1.out.gr hg)
  replace H2 := hid (H2.out.gr hg)
  have HA := hid hv
  replace HG := hid (HG.out.trans hg)
  clear hg hv
  go_wp2_with fail
  refine (xmul_c w7 _ _ a b 1048576 1048576 H1.out H2.out (by decide) (by decide)).mono ?_
  rintro e w8 ⟨v, rfl, hv, hg⟩
  replace H1 := hid (H1.out.gr hg)
  replace H2 := hid (H2.out.gr hg)
  replace HA := hid (HA.out.gr hg)
  have HB := hid hv
  replace HG := hid (HG.out.trans hg)
  clear hg hv
  go_wp2_with fail
  refine (xsame_t w8 _ _ _ _ (a * b) 2097152 HA.out HB.out (by decide)).mono ?_
  rintro e w9 ⟨rfl, hg⟩
  replace H1 := hid (H1.out.gr hg)
  replace H2 := hid (H2.out.gr hg)
  replace HA := hid (HA.out.gr hg)
  replace HB := hid (HB.out.gr hg)
  replace HG := hid (HG.out.trans hg)
  clear hg
  clear HA
  clear HB
  go_wp2_with fail
  refine (awake_c w9 (HT.out.gr HG.out)).mono ?_
  rintro e w10 ⟨rfl, hg⟩
  replace H1 := hid (H1.out.gr hg)
  replace H2 := hid (H2.out.gr hg)
  replace HG := hid (HG.out.trans hg)
  clear hg
  go_wp2
  go_ret
  exact ⟨rfl, HG.out⟩
end Go.Proofs.YtkbgdiejjabdmaaDoor
