/- The walks of the laws of nat: Parse, Print. -/
import Derived.Test.YtkbgdiejjabdmaaDoorAwA
import Derived.Test.YtkbgdiejjabdmaaDoorRfF
import Derived.Test.YtkbgdiejjabdmaaDoorPrB
namespace Go.Proofs.YtkbgdiejjabdmaaDoor
open Go.RowKit

set_option maxRecDepth 100000 in
set_option maxHeartbeats 8000000 in
theorem nattexts_law (W : World) (ht : Tab W) {s : ByteArray} (hs : s.size ≤ 1048576) {v1 : Value} {a : Nat} (h1 : AN W v1 a 1048576) : Calls Tryd.prog 7 #[.string s, v1] W (Is W (.bool true)) := by
  have HT := hid ht
  have H1 := hid h1
  have hs2 : s.size ≤ 1099511627776 := by omega
  have HS := hid hs2
  clear ht h1 hs hs2
  go_enter Tryd.func7, Tryd.ntmps7
  go_wp2_with fail
  refine (parse_c W s HS.out).mono ?_
  rintro e w1 ⟨v, rfl, hv, hg⟩
  replace H1 := hid (H1.out.gr hg)
  have HA := hid hv
  have HG := hid hg
  clear hg hv
  go_wp2_with fail
  refine (xparse_c w1 s HS.out).mono ?_
  rintro e w2 ⟨v, rfl, hv, hg⟩
  replace H1 := hid (H1.out.gr hg)
  replace HA := hid (HA.out.gr hg)
  have HB := hid hv
  replace HG := hid (HG.out.trans hg)
  clear hg hv
  go_wp2_with fail
  refine (xsame_t w2 _ _ _ _ _ 400 HA.out HB.out (by decide)).mono ?_
  rintro e w3 ⟨rfl, hg⟩
  replace H1 := hid (H1.out.gr hg)
  replace HA := hid (HA.out.gr hg)
  replace HB := hid (HB.out.gr hg)
  replace HG := hid (HG.out.trans hg)
  clear hg
  clear HA
  clear HB
  go_wp2_with fail
  refine (print_c w3 _ a 1048576 H1.out (by decide) (HT.out.gr HG.out)).mono ?_
  rintro e w4 ⟨rfl, hg⟩
  replace H1 := hid (H1.out.gr hg)
  replace HG := hid (HG.out.trans hg)
  clear hg
  go_wp2_with fail
  refine (xprint_c w4 _ a 1048576 H1.out (by decide)).mono ?_
  rintro e w5 ⟨rfl, hg⟩
  replace H1 := hid (H1.out.gr hg)
  replace HG := hid (HG.out.trans hg)
  clear hg
  go_wp2_with fail
  refine (awake_c w5 (HT.out.gr HG.out)).mono ?_
  rintro e w6 ⟨rfl, hg⟩
  replace H1 := hid (H1.out.gr hg)
  replace HG := hid (HG.out.trans hg)
  clear hg
  go_wp2
  go_ret
  exact ⟨rfl, HG.out⟩
end Go.Proofs.YtkbgdiejjabdmaaDoor
