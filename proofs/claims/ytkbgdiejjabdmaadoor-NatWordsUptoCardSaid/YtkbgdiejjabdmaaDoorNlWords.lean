/- The walks of the laws of nat: Of, Norm, Cmp, Bits, Uint. -/
import Derived.Test.YtkbgdiejjabdmaaDoorAwA
import Derived.Test.YtkbgdiejjabdmaaDoorRfG
namespace Go.Proofs.YtkbgdiejjabdmaaDoor
open Go.RowKit

set_option maxRecDepth 100000 in
set_option maxHeartbeats 8000000 in
theorem natwords_law (W : World) (ht : Tab W) {n : Int} (hn0 : 0 ≤ n) (hn1 : n < 18446744073709551616) {v1 : Value} {a : Nat} (h1 : AN W v1 a 1048576) {v2 : Value} {b : Nat} (h2 : AN W v2 b 1048576) : Calls Tryd.prog 3 #[.int .u64 n, v1, v2] W (Is W (.bool true)) := by
  have HT := hid ht
  have H1 := hid h1
  have H2 := hid h2
  have HO1 : Hid (∀ V : World, Calls Tryd.prog 28 #[.int .u64 n] V (Ret V fun v w' => VN w' V.heap.size v n.toNat 2)) := fun V => of_c V n hn0 hn1
  have HO2 : Hid (∀ V : World, Calls Tryd.prog 29 #[.int .u64 n] V (Ret V fun v w' => VN w' V.heap.size v n.toNat 2)) := fun V => xof_c V n hn0 hn1
  clear ht h1 h2 hn0 hn1
  go_enter Tryd.func3, Tryd.ntmps3
  go_wp2_with fail
  refine (uint_c W _ a 1048576 H1.out (by decide)).mono ?_
  rintro e w1 ⟨rfl, hg⟩
  replace H1 := hid (H1.out.gr hg)
  replace H2 := hid (H2.out.gr hg)
  have HG := hid hg
  clear hg
  go_wp2_with fail
  refine (xuint_c w1 _ a 1048576 H1.out (by decide)).mono ?_
  rintro e w2 ⟨rfl, hg⟩
  replace H1 := hid (H1.out.gr hg)
  replace H2 := hid (H2.out.gr hg)
  replace HG := hid (HG.out.trans hg)
  clear hg
  go_wp2_with fail
  refine (bits_c w2 _ a 1048576 H1.out (by decide)).mono ?_
  rintro e w3 ⟨rfl, hg⟩
  replace H1 := hid (H1.out.gr hg)
  replace H2 := hid (H2.out.gr hg)
  replace HG := hid (HG.out.trans hg)
  clear hg
  go_wp2_with fail
  refine (xbits_c w3 _ a 1048576 H1.out (by decide)).mono ?_
  rintro e w4 ⟨rfl, hg⟩
  replace H1 := hid (H1.out.gr hg)
  replace H2 := hid (H2.out.gr hg)
  replace HG := hid (HG.out.trans hg)
  clear hg
  go_wp2_with fail
  refine (cmp_c w4 _ _ a b 1048576 H1.out H2.out (by decide)).mono ?_
  rintro e w5 ⟨rfl, hg⟩
  replace H1 := hid (H1.out.gr hg)
  replace H2 := hid (H2.out.gr hg)
  replace HG := hid (HG.out.trans hg)
  clear hg
  go_wp2_with fail
  refine (xcmp_c w5 _ _ a b 1048576 H1.out H2.out (by decide)).mono ?_
  rintro e w6 ⟨rfl, hg⟩
  replace H1 := hid (H1.out.gr hg)
  replace H2 := hid (H2.out.gr hg)
  replace HG := hid (HG.out.trans hg)
  clear hg
  go_wp2_with fail
  refine (HO1.out w6).mono ?_
  rintro e w7 ⟨v, rfl, hv, hg⟩
  replace H1 := hid (H1.out.gr hg)
  replace H2 := hid (H2.out.gr hg)
  have HA := hid hv
  replace HG := hid (HG.out.trans hg)
  clear hg hv
  go_wp2_with fail
  refine (HO2.out w7).mono ?_
  rintro e w8 ⟨v, rfl, hv, hg⟩
  replace H1 := hid (H1.out.gr hg)
  replace H2 := hid (H2.out.gr hg)
  replace HA := hid (HA.out.gr hg)
  have HB := hid hv
  replace HG := hid (HG.out.trans hg)
  clear hg hv
  go_wp2_with fail
  refine (xsame_t w8 _ _ _ _ _ 2 HA.out HB.out (by decide)).mono ?_
  rintro e w9 ⟨rfl, hg⟩
  replace H1 := hid (H1.out.gr hg)
  replace H2 := hid (H2.out.gr hg)
  replace HA := hid (HA.out.gr hg)
  replace HB := hid (HB.out.gr hg)
  replace HG := hid (HG.out.trans hg)
  clear hg
  clear HA
  clear HB
  go_wp2_with fail
  refine (norm_c w9 _ a 1048576 H1.out (by decide)).mono ?_
  rintro e w10 ⟨v, rfl, hv, hg⟩
  replace H1 := hid (H1.out.gr hg)
  replace H2 := hid (H2.out.gr hg)
  have HA := hid hv
  replace HG := hid (HG.out.trans hg)
  clear hg hv
  go_wp2_with fail
  refine (xnorm_c w10 _ a 1048576 H1.out (by decide)).mono ?_
  rintro e w11 ⟨v, rfl, hv, hg⟩
  replace H1 := hid (H1.out.gr hg)
  replace H2 := hid (H2.out.gr hg)
  replace HA := hid (HA.out.gr hg)
  have HB := hid hv
  replace HG := hid (HG.out.trans hg)
  clear hg hv
  go_wp2_with fail
  refine (xsame_t w11 _ _ _ _ a 1048576 HA.out HB.out (by decide)).mono ?_
  rintro e w12 ⟨rfl, hg⟩
  replace H1 := hid (H1.out.gr hg)
  replace H2 := hid (H2.out.gr hg)
  replace HA := hid (HA.out.gr hg)
  replace HB := hid (HB.out.gr hg)
  replace HG := hid (HG.out.trans hg)
  clear hg
  go_wp2_with fail
  refine (awake_c w12 (HT.out.gr HG.out)).mono ?_
  rintro e w13 ⟨rfl, hg⟩
  replace H1 := hid (H1.out.gr hg)
  replace H2 := hid (H2.out.gr hg)
  replace HA := hid (HA.out.gr hg)
  replace HB := hid (HB.out.gr hg)
  replace HG := hid (HG.out.trans hg)
  clear hg
  go_wp2
  go_ret
  exact ⟨rfl, HG.out⟩
end Go.Proofs.YtkbgdiejjabdmaaDoor
