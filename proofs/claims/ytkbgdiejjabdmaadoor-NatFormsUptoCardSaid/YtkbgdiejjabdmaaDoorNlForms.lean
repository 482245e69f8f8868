/- The walks of the laws of nat: arguments with high zero limbs. -/
import Derived.Test.YtkbgdiejjabdmaaDoorAwA
import Derived.Test.YtkbgdiejjabdmaaDoorNatN
namespace Go.Proofs.YtkbgdiejjabdmaaDoor
open Go.RowKit

set_option maxRecDepth 100000 in
set_option maxHeartbeats 8000000 in
theorem natforms_law (W : World) (ht : Tab W) {v1 : Value} {a : Nat} (h1 : AN W v1 a 1048576) {v2 : Value} {b : Nat} (h2 : AN W v2 b 1048576) {n m : Int} (hn0 : 0 ≤ n) (hn1 : n ≤ 255) (hm0 : 0 ≤ m) (hm1 : m ≤ 255) : Calls Tryd.prog 11 #[v1, v2, .int .u8 n, .int .u8 m] W (Is W (.bool true)) := by
  have HT := hid ht
  have H1 := hid h1
  have H2 := hid h2
  have HH1 : Hid (∀ V : World, AN V v1 a 1048576 → Calls Tryd.prog 49 #[v1, .int .u8 n] V (Ret V fun v w' => AN w' v a 1048831)) := fun V h => high_c V v1 a 1048576 n h (by decide) hn0 hn1
  have HH2 : Hid (∀ V : World, AN V v2 b 1048576 → Calls Tryd.prog 49 #[v2, .int .u8 m] V (Ret V fun v w' => AN w' v b 1048831)) := fun V h => high_c V v2 b 1048576 m h (by decide) hm0 hm1
  obtain ⟨ba, hba⟩ : ∃ k : Int, k = bitsN a := ⟨_, rfl⟩
  obtain ⟨ck, hck⟩ : ∃ k : Int, k = cmpN a b := ⟨_, rfl⟩
  obtain ⟨S, hS⟩ : ∃ S : ByteArray, S = ⟨(Lib.decDigits a).toArray⟩ := ⟨_, rfl⟩
  have HBT : Hid (∀ (V : World) (v : Value), AN V v a 1048831 → Calls Tryd.prog 23 #[v] V (Is V (.int .i64 ba))) := fun V v h => by rw [hba]; exact bits_c V v a 1048831 h (by decide)
  have HCM : Hid (∀ (V : World) (u v : Value), AN V u a 1048831 → AN V v b 1048831 → Calls Tryd.prog 25 #[u, v] V (Is V (.int .i64 ck))) := fun V u v h1 h2 => by rw [hck]; exact cmp_c V u v a b 1048831 h1 h2 (by decide)
  have HPR : Hid (∀ (V : World) (v : Value), Tab V → AN V v a 1048831 → Calls Tryd.prog 47 #[v] V (Is V (.string S))) := fun V v h1 h2 => by rw [hS]; exact print_c V v a 1048831 h2 (by decide) h1
  have e1 : (ba != ba) = false := by simp
  have e2 : (ck != ck) = false := by simp
  clear ht h1 h2 hn0 hn1 hm0 hm1 hba hck hS
  by_cases hb : b = 0
  · have HB0 := hid hb
    clear hb
    go_enter Tryd.func11, Tryd.ntmps11
    go_wp2_with fail
    refine (HH1.out W H1.out).mono ?_
    rintro e w1 ⟨x1, rfl, hv, hg⟩
    replace H1 := hid (H1.out.gr hg)
    replace H2 := hid (H2.out.gr hg)
    have HX := hid hv
    have HG := hid hg
    clear hg hv
    go_wp2_with fail
    refine (HH2.out w1 H2.out).mono ?_
    rintro e w2 ⟨x2, rfl, hv, hg⟩
    replace H1 := hid (H1.out.gr hg)
    replace H2 := hid (H2.out.gr hg)
    replace HX := hid (HX.out.gr hg)
    have HY := hid hv
    replace HG := hid (HG.out.trans hg)
    clear hg hv
    go_wp2_with fail
    refine (add_c w2 _ _ a b 1048831 (H1.out.le (by decide)) (H2.out.le (by decide)) (by decide)).mono ?_
    rintro e w3 ⟨v, rfl, hv, hg⟩
    replace H1 := hid (H1.out.gr hg)
    replace H2 := hid (H2.out.gr hg)
    replace HX := hid (HX.out.gr hg)
    replace HY := hid (HY.out.gr hg)
    have HA := hid hv
    replace HG := hid (HG.out.trans hg)
    clear hg hv
    go_wp2_with fail
    refine (add_c w3 _ _ a b 1048831 HX.out HY.out (by decide)).mono ?_
    rintro e w4 ⟨v, rfl, hv, hg⟩
    replace H1 := hid (H1.out.gr hg)
    replace H2 := hid (H2.out.gr hg)
    replace HX := hid (HX.out.gr hg)
    replace HY := hid (HY.out.gr hg)
    replace HA := hid (HA.out.gr hg)
    have HB := hid hv
    replace HG := hid (HG.out.trans hg)
    clear hg hv
    go_wp2_with fail
    refine (xsame_t w4 _ _ _ _ (a + b) 1048832 HA.out HB.out (by decide)).mono ?_
    rintro e w5 ⟨rfl, hg⟩
    replace H1 := hid (H1.out.gr hg)
    replace H2 := hid (H2.out.gr hg)
    replace HX := hid (HX.out.gr hg)
    replace HY := hid (HY.out.gr hg)
    replace HA := hid (HA.out.gr hg)
    replace HB := hid (HB.out.gr hg)
    replace HG := hid (HG.out.trans hg)
    clear hg
    clear HA
    clear HB
    go_wp2_with fail
    refine (mul_c w5 _ _ a b 1048831 1048831 (H1.out.le (by decide)) (H2.out.le (by decide)) (by decide) (by decide)).mono ?_
    rintro e w6 ⟨v, rfl, hv, hg⟩
    replace H1 := hid (H1.out.gr hg)
    replace H2 := hid (H2.out.gr hg)
    replace HX := hid (HX.out.gr hg)
    replace HY := hid (HY.out.gr hg)
    have HA := hid hv
    replace HG := hid (HG.out.trans hg)
    clear hg hv
    go_wp2_with fail
    refine (mul_c w6 _ _ a b 1048831 1048831 HX.out HY.out (by decide) (by decide)).mono ?_
    rintro e w7 ⟨v, rfl, hv, hg⟩
    replace H1 := hid (H1.out.gr hg)
    replace H2 := hid (H2.out.gr hg)
    replace HX := hid (HX.out.gr hg)
    replace HY := hid (HY.out.gr hg)
    replace HA := hid (HA.out.gr hg)
    have HB := hid hv
    replace HG := hid (HG.out.trans hg)
    clear hg hv
    go_wp2_with fail
    refine (xsame_t w7 _ _ _ _ (a * b) 2097662 HA.out HB.out (by decide)).mono ?_
    rintro e w8 ⟨rfl, hg⟩
    replace H1 := hid (H1.out.gr hg)
    replace H2 := hid (H2.out.gr hg)
    replace HX := hid (HX.out.gr hg)
    replace HY := hid (HY.out.gr hg)
    replace HA := hid (HA.out.gr hg)
    replace HB := hid (HB.out.gr hg)
    replace HG := hid (HG.out.trans hg)
    clear hg
    clear HA
    clear HB
    go_wp2_with fail
    refine (HCM.out w8 _ _ (H1.out.le (by decide)) (H2.out.le (by decide))).mono ?_
    rintro e w9 ⟨rfl, hg⟩
    replace H1 := hid (H1.out.gr hg)
    replace H2 := hid (H2.out.gr hg)
    replace HX := hid (HX.out.gr hg)
    replace HY := hid (HY.out.gr hg)
    replace HG := hid (HG.out.trans hg)
    clear hg
    go_wp2_with fail
    refine (HCM.out w9 _ _ HX.out HY.out).mono ?_
    rintro e w10 ⟨rfl, hg⟩
    replace H1 := hid (H1.out.gr hg)
    replace H2 := hid (H2.out.gr hg)
    replace HX := hid (HX.out.gr hg)
    replace HY := hid (HY.out.gr hg)
    replace HG := hid (HG.out.trans hg)
    clear hg
    go_wp2_with fail
    refine (HBT.out w10 _ (H1.out.le (by decide))).mono ?_
    rintro e w11 ⟨rfl, hg⟩
    replace H1 := hid (H1.out.gr hg)
    replace H2 := hid (H2.out.gr hg)
    replace HX := hid (HX.out.gr hg)
    replace HY := hid (HY.out.gr hg)
    replace HG := hid (HG.out.trans hg)
    clear hg
    go_wp2_with fail
    refine (HBT.out w11 _ HX.out).mono ?_
    rintro e w12 ⟨rfl, hg⟩
    replace H1 := hid (H1.out.gr hg)
    replace H2 := hid (H2.out.gr hg)
    replace HX := hid (HX.out.gr hg)
    replace HY := hid (HY.out.gr hg)
    replace HG := hid (HG.out.trans hg)
    clear hg
    go_wp2_with fail
    refine (HPR.out w12 _ (HT.out.gr HG.out) (H1.out.le (by decide))).mono ?_
    rintro e w13 ⟨rfl, hg⟩
    replace H1 := hid (H1.out.gr hg)
    replace H2 := hid (H2.out.gr hg)
    replace HX := hid (HX.out.gr hg)
    replace HY := hid (HY.out.gr hg)
    replace HG := hid (HG.out.trans hg)
    clear hg
    go_wp2_with fail
    refine (HPR.out w13 _ (HT.out.gr HG.out) HX.out).mono ?_
    rintro e w14 ⟨rfl, hg⟩
    replace H1 := hid (H1.out.gr hg)
    replace H2 := hid (H2.out.gr hg)
    replace HX := hid (HX.out.gr hg)
    replace HY := hid (HY.out.gr hg)
    replace HG := hid (HG.out.trans hg)
    clear hg
    go_wp2_with fail
    refine (divMod_c0 w14 _ _ a b 1048831 (H1.out.le (by decide)) (H2.out.le (by decide)) (by decide) HB0.out).mono ?_
    rintro e w15 ⟨rfl, hg⟩
    replace H1 := hid (H1.out.gr hg)
    replace H2 := hid (H2.out.gr hg)
    replace HX := hid (HX.out.gr hg)
    replace HY := hid (HY.out.gr hg)
    replace HG := hid (HG.out.trans hg)
    clear hg
    go_wp2_with fail
    refine (divMod_c0 w15 _ _ a b 1048831 HX.out HY.out (by decide) HB0.out).mono ?_
    rintro e w16 ⟨rfl, hg⟩
    replace H1 := hid (H1.out.gr hg)
    replace H2 := hid (H2.out.gr hg)
    replace HX := hid (HX.out.gr hg)
    replace HY := hid (HY.out.gr hg)
    replace HG := hid (HG.out.trans hg)
    clear hg
    go_wp2_with fail
    refine (xsame_t w16 _ _ _ _ 0 1 (VN.zero w16 0 none 0 1) (VN.zero w16 0 none 0 1) (by decide)).mono ?_
    rintro e w17 ⟨rfl, hg⟩
    replace H1 := hid (H1.out.gr hg)
    replace H2 := hid (H2.out.gr hg)
    replace HX := hid (HX.out.gr hg)
    replace HY := hid (HY.out.gr hg)
    replace HG := hid (HG.out.trans hg)
    clear hg
    go_wp2_with fail
    refine (xsame_t w17 _ _ _ _ 0 1 (VN.zero w17 0 none 0 1) (VN.zero w17 0 none 0 1) (by decide)).mono ?_
    rintro e w18 ⟨rfl, hg⟩
    replace H1 := hid (H1.out.gr hg)
    replace H2 := hid (H2.out.gr hg)
    replace HX := hid (HX.out.gr hg)
    replace HY := hid (HY.out.gr hg)
    replace HG := hid (HG.out.trans hg)
    clear hg
    go_wp2_with fail
    refine (gcd_c w18 _ _ a b 1048831 (H1.out.le (by decide)) (H2.out.le (by decide)) (by decide)).mono ?_
    rintro e w19 ⟨v, rfl, hv, hg⟩
    replace H1 := hid (H1.out.gr hg)
    replace H2 := hid (H2.out.gr hg)
    replace HX := hid (HX.out.gr hg)
    replace HY := hid (HY.out.gr hg)
    have HA := hid hv
    replace HG := hid (HG.out.trans hg)
    clear hg hv
    go_wp2_with fail
    refine (gcd_c w19 _ _ a b 1048831 HX.out HY.out (by decide)).mono ?_
    rintro e w20 ⟨v, rfl, hv, hg⟩
    replace H1 := hid (H1.out.gr hg)
    replace H2 := hid (H2.out.gr hg)
    replace HX := hid (HX.out.gr hg)
    replace HY := hid (HY.out.gr hg)
    replace HA := hid (HA.out.gr hg)
    have HB := hid hv
    replace HG := hid (HG.out.trans hg)
    clear hg hv
    go_wp2_with fail
    refine (xsame_t w20 _ _ _ _ (Nat.gcd a b) 1048831 HA.out HB.out (by decide)).mono ?_
    rintro e w21 ⟨rfl, hg⟩
    replace H1 := hid (H1.out.gr hg)
    replace H2 := hid (H2.out.gr hg)
    replace HX := hid (HX.out.gr hg)
    replace HY := hid (HY.out.gr hg)
    replace HA := hid (HA.out.gr hg)
    replace HB := hid (HB.out.gr hg)
    replace HG := hid (HG.out.trans hg)
    clear hg
    clear HA
    clear HB
    go_wp2_with fail
    refine (awake_c w21 (HT.out.gr HG.out)).mono ?_
    rintro e w22 ⟨rfl, hg⟩
    replace H1 := hid (H1.out.gr hg)
    replace H2 := hid (H2.out.gr hg)
    replace HX := hid (HX.out.gr hg)
    replace HY := hid (HY.out.gr hg)
    replace HG := hid (HG.out.trans hg)
    clear hg
    go_wp2
    go_ret
    exact ⟨rfl, HG.out⟩
  · have HB0 : Hid (0 < b) := by unfold Hid; omega
    clear hb
    go_enter Tryd.func11, Tryd.ntmps11
    go_wp2_with fail
    refine (HH1.out W H1.out).mono ?_
    rintro e w1 ⟨x1, rfl, hv, hg⟩
    replace H1 := hid (H1.out.gr hg)
    replace H2 := hid (H2.out.gr hg)
    have HX := hid hv
    have HG := hid hg
    clear hg hv
    go_wp2_with fail
    refine (HH2.out w1 H2.out).mono ?_
    rintro e w2 ⟨x2, rfl, hv, hg⟩
    replace H1 := hid (H1.out.gr hg)
    replace H2 := hid (H2.out.gr hg)
    replace HX := hid (HX.out.gr hg)
    have HY := hid hv
    replace HG := hid (HG.out.trans hg)
    clear hg hv
    go_wp2_with fail
    refine (add_c w2 _ _ a b 1048831 (H1.out.le (by decide)) (H2.out.le (by decide)) (by decide)).mono ?_
    rintro e w3 ⟨v, rfl, hv, hg⟩
    replace H1 := hid (H1.out.gr hg)
    replace H2 := hid (H2.out.gr hg)
    replace HX := hid (HX.out.gr hg)
    replace HY := hid (HY.out.gr hg)
    have HA := hid hv
    replace HG := hid (HG.out.trans hg)
    clear hg hv
    go_wp2_with fail
    refine (add_c w3 _ _ a b 1048831 HX.out HY.out (by decide)).mono ?_
    rintro e w4 ⟨v, rfl, hv, hg⟩
    replace H1 := hid (H1.out.gr hg)
    replace H2 := hid (H2.out.gr hg)
    replace HX := hid (HX.out.gr hg)
    replace HY := hid (HY.out.gr hg)
    replace HA := hid (HA.out.gr hg)
    have HB := hid hv
    replace HG := hid (HG.out.trans hg)
    clear hg hv
    go_wp2_with fail
    refine (xsame_t w4 _ _ _ _ (a + b) 1048832 HA.out HB.out (by decide)).mono ?_
    rintro e w5 ⟨rfl, hg⟩
    replace H1 := hid (H1.out.gr hg)
    replace H2 := hid (H2.out.gr hg)
    replace HX := hid (HX.out.gr hg)
    replace HY := hid (HY.out.gr hg)
    replace HA := hid (HA.out.gr hg)
    replace HB := hid (HB.out.gr hg)
    replace HG := hid (HG.out.trans hg)
    clear hg
    clear HA
    clear HB
    go_wp2_with fail
    refine (mul_c w5 _ _ a b 1048831 1048831 (H1.out.le (by decide)) (H2.out.le (by decide)) (by decide) (by decide)).mono ?_
    rintro e w6 ⟨v, rfl, hv, hg⟩
    replace H1 := hid (H1.out.gr hg)
    replace H2 := hid (H2.out.gr hg)
    replace HX := hid (HX.out.gr hg)
    replace HY := hid (HY.out.gr hg)
    have HA := hid hv
    replace HG := hid (HG.out.trans hg)
    clear hg hv
    go_wp2_with fail
    refine (mul_c w6 _ _ a b 1048831 1048831 HX.out HY.out (by decide) (by decide)).mono ?_
    rintro e w7 ⟨v, rfl, hv, hg⟩
    replace H1 := hid (H1.out.gr hg)
    replace H2 := hid (H2.out.gr hg)
    replace HX := hid (HX.out.gr hg)
    replace HY := hid (HY.out.gr hg)
    replace HA := hid (HA.out.gr hg)
    have HB := hid hv
    replace HG := hid (HG.out.trans hg)
    clear hg hv
    go_wp2_with fail
    refine (xsame_t w7 _ _ _ _ (a * b) 2097662 HA.out HB.out (by decide)).mono ?_
    rintro e w8 ⟨rfl, hg⟩
    replace H1 := hid (H1.out.gr hg)
    replace H2 := hid (H2.out.gr hg)
    replace HX := hid (HX.out.gr hg)
    replace HY := hid (HY.out.gr hg)
    replace HA := hid (HA.out.gr hg)
    replace HB := hid (HB.out.gr hg)
    replace HG := hid (HG.out.trans hg)
    clear hg
    clear HA
    clear HB
    go_wp2_with fail
    refine (HCM.out w8 _ _ (H1.out.le (by decide)) (H2.out.le (by decide))).mono ?_
    rintro e w9 ⟨rfl, hg⟩
    replace H1 := hid (H1.out.gr hg)
    replace H2 := hid (H2.out.gr hg)
    replace HX := hid (HX.out.gr hg)
    replace HY := hid (HY.out.gr hg)
    replace HG := hid (HG.out.trans hg)
    clear hg
    go_wp2_with fail
    refine (HCM.out w9 _ _ HX.out HY.out).mono ?_
    rintro e w10 ⟨rfl, hg⟩
    replace H1 := hid (H1.out.gr hg)
    replace H2 := hid (H2.out.gr hg)
    replace HX := hid (HX.out.gr hg)
    replace HY := hid (HY.out.gr hg)
    replace HG := hid (HG.out.trans hg)
    clear hg
    go_wp2_with fail
    refine (HBT.out w10 _ (H1.out.le (by decide))).mono ?_
    rintro e w11 ⟨rfl, hg⟩
    replace H1 := hid (H1.out.gr hg)
    replace H2 := hid (H2.out.gr hg)
    replace HX := hid (HX.out.gr hg)
    replace HY := hid (HY.out.gr hg)
    replace HG := hid (HG.out.trans hg)
    clear hg
    go_wp2_with fail
    refine (HBT.out w11 _ HX.out).mono ?_
    rintro e w12 ⟨rfl, hg⟩
    replace H1 := hid (H1.out.gr hg)
    replace H2 := hid (H2.out.gr hg)
    replace HX := hid (HX.out.gr hg)
    replace HY := hid (HY.out.gr hg)
    replace HG := hid (HG.out.trans hg)
    clear hg
    go_wp2_with fail
    refine (HPR.out w12 _ (HT.out.gr HG.out) (H1.out.le (by decide))).mono ?_
    rintro e w13 ⟨rfl, hg⟩
    replace H1 := hid (H1.out.gr hg)
    replace H2 := hid (H2.out.gr hg)
    replace HX := hid (HX.out.gr hg)
    replace HY := hid (HY.out.gr hg)
    replace HG := hid (HG.out.trans hg)
    clear hg
    go_wp2_with fail
    refine (HPR.out w13 _ (HT.out.gr HG.out) HX.out).mono ?_
    rintro e w14 ⟨rfl, hg⟩
    replace H1 := hid (H1.out.gr hg)
    replace H2 := hid (H2.out.gr hg)
    replace HX := hid (HX.out.gr hg)
    replace HY := hid (HY.out.gr hg)
    replace HG := hid (HG.out.trans hg)
    clear hg
    go_wp2_with fail
    refine (divMod_c w14 _ _ a b 1048831 (H1.out.le (by decide)) (H2.out.le (by decide)) (by decide) HB0.out).mono ?_
    rintro e w15 ⟨u, v, rfl, ⟨hv1, hv2⟩, hg⟩
    replace H1 := hid (H1.out.gr hg)
    replace H2 := hid (H2.out.gr hg)
    replace HX := hid (HX.out.gr hg)
    replace HY := hid (HY.out.gr hg)
    have HA := hid hv1
    have HB := hid hv2
    replace HG := hid (HG.out.trans hg)
    clear hg hv1 hv2
    go_wp2_with fail
    refine (divMod_c w15 _ _ a b 1048831 HX.out HY.out (by decide) HB0.out).mono ?_
    rintro e w16 ⟨u2, v2, rfl, ⟨hv1, hv2⟩, hg⟩
    replace H1 := hid (H1.out.gr hg)
    replace H2 := hid (H2.out.gr hg)
    replace HX := hid (HX.out.gr hg)
    replace HY := hid (HY.out.gr hg)
    replace HA := hid (HA.out.gr hg)
    replace HB := hid (HB.out.gr hg)
    have HC := hid hv1
    have HD := hid hv2
    replace HG := hid (HG.out.trans hg)
    clear hg hv1 hv2
    go_wp2_with fail
    refine (xsame_t w16 _ _ _ _ (a / b) 1048831 HA.out HC.out (by decide)).mono ?_
    rintro e w17 ⟨rfl, hg⟩
    replace H1 := hid (H1.out.gr hg)
    replace H2 := hid (H2.out.gr hg)
    replace HX := hid (HX.out.gr hg)
    replace HY := hid (HY.out.gr hg)
    replace HA := hid (HA.out.gr hg)
    replace HB := hid (HB.out.gr hg)
    replace HC := hid (HC.out.gr hg)
    replace HD := hid (HD.out.gr hg)
    replace HG := hid (HG.out.trans hg)
    clear hg
    go_wp2_with fail
    refine (xsame_t w17 _ _ _ _ (a % b) 1048831 HB.out HD.out (by decide)).mono ?_
    rintro e w18 ⟨rfl, hg⟩
    replace H1 := hid (H1.out.gr hg)
    replace H2 := hid (H2.out.gr hg)
    replace HX := hid (HX.out.gr hg)
    replace HY := hid (HY.out.gr hg)
    replace HA := hid (HA.out.gr hg)
    replace HB := hid (HB.out.gr hg)
    replace HC := hid (HC.out.gr hg)
    replace HD := hid (HD.out.gr hg)
    replace HG := hid (HG.out.trans hg)
    clear hg
    clear HA
    clear HB
    clear HC
    clear HD
    go_wp2_with fail
    refine (gcd_c w18 _ _ a b 1048831 (H1.out.le (by decide)) (H2.out.le (by decide)) (by decide)).mono ?_
    rintro e w19 ⟨v, rfl, hv, hg⟩
    replace H1 := hid (H1.out.gr hg)
    replace H2 := hid (H2.out.gr hg)
    replace HX := hid (HX.out.gr hg)
    replace HY := hid (HY.out.gr hg)
    have HA := hid hv
    replace HG := hid (HG.out.trans hg)
    clear hg hv
    go_wp2_with fail
    refine (gcd_c w19 _ _ a b 1048831 HX.out HY.out (by decide)).mono ?_
    rintro e w20 ⟨v, rfl, hv, hg⟩
    replace H1 := hid (H1.out.gr hg)
    replace H2 := hid (H2.out.gr hg)
    replace HX := hid (HX.out.gr hg)
    replace HY := hid (HY.out.gr hg)
    replace HA := hid (HA.out.gr hg)
    have HB := hid hv
    replace HG := hid (HG.out.trans hg)
    clear hg hv
    go_wp2_with fail
    refine (xsame_t w20 _ _ _ _ (Nat.gcd a b) 1048831 HA.out HB.out (by decide)).mono ?_
    rintro e w21 ⟨rfl, hg⟩
    replace H1 := hid (H1.out.gr hg)
    replace H2 := hid (H2.out.gr hg)
    replace HX := hid (HX.out.gr hg)
    replace HY := hid (HY.out.gr hg)
    replace HA := hid (HA.out.gr hg)
    replace HB := hid (HB.out.gr hg)
    replace HG := hid (HG.out.trans hg)
    clear hg
    clear HA
    clear HB
    go_wp2_with fail
    refine (awake_c w21 (HT.out.gr HG.out)).mono ?_
    rintro e w22 ⟨rfl, hg⟩
    replace H1 := hid (H1.out.gr hg)
    replace H2 := hid (H2.out.gr hg)
    replace HX := hid (HX.out.gr hg)
    replace HY := hid (HY.out.gr hg)
    replace HG := hid (HG.out.trans hg)
    clear hg
    go_wp2
    go_ret
    exact ⟨rfl, HG.out⟩
end Go.Proofs.YtkbgdiejjabdmaaDoor
