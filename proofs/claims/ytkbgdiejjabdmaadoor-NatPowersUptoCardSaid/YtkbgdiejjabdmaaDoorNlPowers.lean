/- The walks of the laws of nat: Pow. -/
import Derived.Test.YtkbgdiejjabdmaaDoorAwA
import Derived.Test.YtkbgdiejjabdmaaDoorRfG
namespace Go.Proofs.YtkbgdiejjabdmaaDoor
open Go.RowKit

set_option maxRecDepth 100000 in
set_option maxHeartbeats 8000000 in
theorem natpowers_law (W : World) (ht : Tab W) {v1 : Value} {a : Nat} (h1 : AN W v1 a 1048576) {n : Int} : Calls Tryd.prog 6 #[v1, .int .i64 n] W (Is W (.bool true)) := by
  have HT := hid ht
  have H1 := hid h1
  clear ht h1
  go_enter Tryd.func6, Tryd.ntmps6
  go_wp2_with fail
  refine (pow_c W _ a 1048576 n H1.out (by decide)).mono ?_
  rintro e w1 ⟨v, rfl, hv, hg⟩
  replace H1 := hid (H1.out.gr hg)
  have HA := hid hv
  have HG := hid hg
  clear hg hv
  go_wp2_with fail
  refine (xpow_c w1 _ a 1048576 n H1.out (by decide)).mono ?_
  rintro e w2 ⟨v, rfl, hv, hg⟩
  replace H1 := hid (H1.out.gr hg)
  replace HA := hid (HA.out.gr hg)
  have HB := hid hv
  replace HG := hid (HG.out.trans hg)
  clear hg hv
  go_wp2_with fail
  refine (xsame_t w2 _ _ _ _ _ 1073741825 HA.out HB.out (by decide)).mono ?_
  rintro e w3 ⟨rfl, hg⟩
  replace H1 := hid (H1.out.gr hg)
  replace HA := hid (HA.out.gr hg)
  replace HB := hid (HB.out.gr hg)
  replace HG := hid (HG.out.trans hg)
  clear hg
  clear HA
  clear HB
  go_wp2_with fail
  refine (awake_c w3 (HT.out.gr HG.out)).mono ?_
  rintro e w4 ⟨rfl, hg⟩
  replace H1 := hid (H1.out.gr hg)
  replace HG := hid (HG.out.trans hg)
  clear hg
  go_wp2
  go_ret
  exact ⟨rfl, HG.out⟩
end Go.Proofs.YtkbgdiejjabdmaaDoor
