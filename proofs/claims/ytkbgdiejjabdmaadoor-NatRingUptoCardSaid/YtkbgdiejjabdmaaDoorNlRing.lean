/- The walks of the laws of nat: the laws of addition and multiplication. -/
import Derived.Test.YtkbgdiejjabdmaaDoorAwA
import Derived.Test.YtkbgdiejjabdmaaDoorRfA
namespace Go.Proofs.YtkbgdiejjabdmaaDoor
open Go.RowKit

set_option maxRecDepth 100000 in
set_option maxHeartbeats 8000000 in
theorem natring_law (W : World) (ht : Tab W) {v1 : Value} {a : Nat} (h1 : AN W v1 a 1048576) {v2 : Value} {b : Nat} (h2 : AN W v2 b 1048576) {v3 : Value} {c : Nat} (h3 : AN W v3 c 1048576) : Calls Tryd.prog 8 #[v1, v2, v3] W (Is W (.bool true)) := by
  have HT := hid ht
  have H1 := hid h1
  have H2 := hid h2
  have H3 := hid h3
  clear ht h1 h2 h3
  have HSB : Hid (∀ (V : World) (x y : Value), AN V x (a + b) 1048577 → AN V y b 1048577 → Calls Tryd.prog 33 #[x, y] V (RetB V true fun v w' => VN w' V.heap.size v a 1048577)) := fun V x y h1 h2 => by
    have h := sub_c V x y (a + b) b 1048577 h1 h2 (by decide)
    rw [decide_eq_true (Nat.le_add_left b a), Nat.add_sub_cancel] at h
    exact h
  have HCA : Hid (∀ (V : World) (x y : Value) (L : Nat), L ≤ 1099511627776 → AN V x a L → AN V y a L → Calls Tryd.prog 25 #[x, y] V (Is V (.int .i64 0))) := fun V x y L hL h1 h2 => by
    have h := cmp_c V x y a a L h1 h2 hL
    rw [cmpN_eq rfl] at h
    exact h
  by_cases hb : b = 0
  · have HB0 := hid hb
    clear hb
    go_enter Tryd.func8, Tryd.ntmps8
    go_wp2_with fail
    refine (add_c W _ _ a b 1048576 H1.out H2.out (by decide)).mono ?_
    rintro e w1 ⟨v, rfl, hv, hg⟩
    replace H1 := hid (H1.out.gr hg)
    replace H2 := hid (H2.out.gr hg)
    replace H3 := hid (H3.out.gr hg)
    have HS := hid hv
    have HG := hid hg
    clear hg hv
    go_wp2_with fail
    refine (mul_c w1 _ _ a b 1048576 1048576 H1.out H2.out (by decide) (by decide)).mono ?_
    rintro e w2 ⟨v, rfl, hv, hg⟩
    replace H1 := hid (H1.out.gr hg)
    replace H2 := hid (H2.out.gr hg)
    replace H3 := hid (H3.out.gr hg)
    replace HS := hid (HS.out.gr hg)
    have HP := hid hv
    replace HG := hid (HG.out.trans hg)
    clear hg hv
    go_wp2_with fail
    refine (add_c w2 _ _ b a 1048576 H2.out H1.out (by decide)).mono ?_
    rintro e w3 ⟨v, rfl, hv, hg⟩
    replace H1 := hid (H1.out.gr hg)
    replace H2 := hid (H2.out.gr hg)
    replace H3 := hid (H3.out.gr hg)
    replace HS := hid (HS.out.gr hg)
    replace HP := hid (HP.out.gr hg)
    have HX := hid hv
    replace HG := hid (HG.out.trans hg)
    clear hg hv
    go_wp2_with fail
    refine (xsame_t w3 _ _ _ _ (a + b) 1048577 HS.out (by rw [Nat.add_comm a b]; exact HX.out) (by decide)).mono ?_
    rintro e w4 ⟨rfl, hg⟩
    replace H1 := hid (H1.out.gr hg)
    replace H2 := hid (H2.out.gr hg)
    replace H3 := hid (H3.out.gr hg)
    replace HS := hid (HS.out.gr hg)
    replace HP := hid (HP.out.gr hg)
    replace HX := hid (HX.out.gr hg)
    replace HG := hid (HG.out.trans hg)
    clear hg
    clear HX
    go_wp2_with fail
    refine (mul_c w4 _ _ b a 1048576 1048576 H2.out H1.out (by decide) (by decide)).mono ?_
    rintro e w5 ⟨v, rfl, hv, hg⟩
    replace H1 := hid (H1.out.gr hg)
    replace H2 := hid (H2.out.gr hg)
    replace H3 := hid (H3.out.gr hg)
    replace HS := hid (HS.out.gr hg)
    replace HP := hid (HP.out.gr hg)
    have HX := hid hv
    replace HG := hid (HG.out.trans hg)
    clear hg hv
    go_wp2_with fail
    refine (xsame_t w5 _ _ _ _ (a * b) 2097152 HP.out (by rw [Nat.mul_comm a b]; exact HX.out) (by decide)).mono ?_
    rintro e w6 ⟨rfl, hg⟩
    replace H1 := hid (H1.out.gr hg)
    replace H2 := hid (H2.out.gr hg)
    replace H3 := hid (H3.out.gr hg)
    replace HS := hid (HS.out.gr hg)
    replace HP := hid (HP.out.gr hg)
    replace HX := hid (HX.out.gr hg)
    replace HG := hid (HG.out.trans hg)
    clear hg
    clear HX
    go_wp2_with fail
    refine (add_c w6 _ _ (a + b) c 1048577 HS.out.an (H3.out.le (by decide)) (by decide)).mono ?_
    rintro e w7 ⟨v, rfl, hv, hg⟩
    replace H1 := hid (H1.out.gr hg)
    replace H2 := hid (H2.out.gr hg)
    replace H3 := hid (H3.out.gr hg)
    replace HS := hid (HS.out.gr hg)
    replace HP := hid (HP.out.gr hg)
    have HX := hid hv
    replace HG := hid (HG.out.trans hg)
    clear hg hv
    go_wp2_with fail
    refine (add_c w7 _ _ b c 1048576 H2.out H3.out (by decide)).mono ?_
    rintro e w8 ⟨v, rfl, hv, hg⟩
    replace H1 := hid (H1.out.gr hg)
    replace H2 := hid (H2.out.gr hg)
    replace H3 := hid (H3.out.gr hg)
    replace HS := hid (HS.out.gr hg)
    replace HP := hid (HP.out.gr hg)
    replace HX := hid (HX.out.gr hg)
    have HY := hid hv
    replace HG := hid (HG.out.trans hg)
    clear hg hv
    go_wp2_with fail
    refine (add_c w8 _ _ a (b + c) 1048577 (H1.out.le (by decide)) HY.out.an (by decide)).mono ?_
    rintro e w9 ⟨v, rfl, hv, hg⟩
    replace H1 := hid (H1.out.gr hg)
    replace H2 := hid (H2.out.gr hg)
    replace H3 := hid (H3.out.gr hg)
    replace HS := hid (HS.out.gr hg)
    replace HP := hid (HP.out.gr hg)
    replace HX := hid (HX.out.gr hg)
    replace HY := hid (HY.out.gr hg)
    have HZ := hid hv
    replace HG := hid (HG.out.trans hg)
    clear hg hv
    go_wp2_with fail
    refine (xsame_t w9 _ _ _ _ (a + b + c) 1048578 HX.out (by rw [Nat.add_assoc a b c]; exact HZ.out) (by decide)).mono ?_
    rintro e w10 ⟨rfl, hg⟩
    replace H1 := hid (H1.out.gr hg)
    replace H2 := hid (H2.out.gr hg)
    replace H3 := hid (H3.out.gr hg)
    replace HS := hid (HS.out.gr hg)
    replace HP := hid (HP.out.gr hg)
    replace HX := hid (HX.out.gr hg)
    replace HY := hid (HY.out.gr hg)
    replace HZ := hid (HZ.out.gr hg)
    replace HG := hid (HG.out.trans hg)
    clear hg
    clear HX
    clear HY
    clear HZ
    go_wp2_with fail
    refine (mul_c w10 _ _ (a * b) c 2097152 1048576 HP.out.an H3.out (by decide) (by decide)).mono ?_
    rintro e w11 ⟨v, rfl, hv, hg⟩
    replace H1 := hid (H1.out.gr hg)
    replace H2 := hid (H2.out.gr hg)
    replace H3 := hid (H3.out.gr hg)
    replace HS := hid (HS.out.gr hg)
    replace HP := hid (HP.out.gr hg)
    have HX := hid hv
    replace HG := hid (HG.out.trans hg)
    clear hg hv
    go_wp2_with fail
    refine (mul_c w11 _ _ b c 1048576 1048576 H2.out H3.out (by decide) (by decide)).mono ?_
    rintro e w12 ⟨v, rfl, hv, hg⟩
    replace H1 := hid (H1.out.gr hg)
    replace H2 := hid (H2.out.gr hg)
    replace H3 := hid (H3.out.gr hg)
    replace HS := hid (HS.out.gr hg)
    replace HP := hid (HP.out.gr hg)
    replace HX := hid (HX.out.gr hg)
    have HY := hid hv
    replace HG := hid (HG.out.trans hg)
    clear hg hv
    go_wp2_with fail
    refine (mul_c w12 _ _ a (b * c) 1048576 2097152 H1.out HY.out.an (by decide) (by decide)).mono ?_
    rintro e w13 ⟨v, rfl, hv, hg⟩
    replace H1 := hid (H1.out.gr hg)
    replace H2 := hid (H2.out.gr hg)
    replace H3 := hid (H3.out.gr hg)
    replace HS := hid (HS.out.gr hg)
    replace HP := hid (HP.out.gr hg)
    replace HX := hid (HX.out.gr hg)
    replace HY := hid (HY.out.gr hg)
    have HZ := hid hv
    replace HG := hid (HG.out.trans hg)
    clear hg hv
    go_wp2_with fail
    refine (xsame_t w13 _ _ _ _ (a * b * c) 3145728 HX.out (by rw [Nat.mul_assoc a b c]; exact HZ.out) (by decide)).mono ?_
    rintro e w14 ⟨rfl, hg⟩
    replace H1 := hid (H1.out.gr hg)
    replace H2 := hid (H2.out.gr hg)
    replace H3 := hid (H3.out.gr hg)
    replace HS := hid (HS.out.gr hg)
    replace HP := hid (HP.out.gr hg)
    replace HX := hid (HX.out.gr hg)
    replace HY := hid (HY.out.gr hg)
    replace HZ := hid (HZ.out.gr hg)
    replace HG := hid (HG.out.trans hg)
    clear hg
    clear HX
    clear HY
    clear HZ
    clear HP
    go_wp2_with fail
    refine (mul_c w14 _ _ (a + b) c 1048577 1048576 HS.out.an H3.out (by decide) (by decide)).mono ?_
    rintro e w15 ⟨v, rfl, hv, hg⟩
    replace H1 := hid (H1.out.gr hg)
    replace H2 := hid (H2.out.gr hg)
    replace H3 := hid (H3.out.gr hg)
    replace HS := hid (HS.out.gr hg)
    have HX := hid hv
    replace HG := hid (HG.out.trans hg)
    clear hg hv
    go_wp2_with fail
    refine (mul_c w15 _ _ a c 1048576 1048576 H1.out H3.out (by decide) (by decide)).mono ?_
    rintro e w16 ⟨v, rfl, hv, hg⟩
    replace H1 := hid (H1.out.gr hg)
    replace H2 := hid (H2.out.gr hg)
    replace H3 := hid (H3.out.gr hg)
    replace HS := hid (HS.out.gr hg)
    replace HX := hid (HX.out.gr hg)
    have HY := hid hv
    replace HG := hid (HG.out.trans hg)
    clear hg hv
    go_wp2_with fail
    refine (mul_c w16 _ _ b c 1048576 1048576 H2.out H3.out (by decide) (by decide)).mono ?_
    rintro e w17 ⟨v, rfl, hv, hg⟩
    replace H1 := hid (H1.out.gr hg)
    replace H2 := hid (H2.out.gr hg)
    replace H3 := hid (H3.out.gr hg)
    replace HS := hid (HS.out.gr hg)
    replace HX := hid (HX.out.gr hg)
    replace HY := hid (HY.out.gr hg)
    have HZ := hid hv
    replace HG := hid (HG.out.trans hg)
    clear hg hv
    go_wp2_with fail
    refine (add_c w17 _ _ (a * c) (b * c) 2097152 HY.out.an HZ.out.an (by decide)).mono ?_
    rintro e w18 ⟨v, rfl, hv, hg⟩
    replace H1 := hid (H1.out.gr hg)
    replace H2 := hid (H2.out.gr hg)
    replace H3 := hid (H3.out.gr hg)
    replace HS := hid (HS.out.gr hg)
    replace HX := hid (HX.out.gr hg)
    replace HY := hid (HY.out.gr hg)
    replace HZ := hid (HZ.out.gr hg)
    have HU := hid hv
    replace HG := hid (HG.out.trans hg)
    clear hg hv
    go_wp2_with fail
    refine (xsame_t w18 _ _ _ _ ((a + b) * c) 2097153 HX.out (by rw [Nat.add_mul a b c]; exact HU.out) (by decide)).mono ?_
    rintro e w19 ⟨rfl, hg⟩
    replace H1 := hid (H1.out.gr hg)
    replace H2 := hid (H2.out.gr hg)
    replace H3 := hid (H3.out.gr hg)
    replace HS := hid (HS.out.gr hg)
    replace HX := hid (HX.out.gr hg)
    replace HY := hid (HY.out.gr hg)
    replace HZ := hid (HZ.out.gr hg)
    replace HU := hid (HU.out.gr hg)
    replace HG := hid (HG.out.trans hg)
    clear hg
    clear HX
    clear HY
    clear HZ
    clear HU
    go_wp2_with fail
    refine (HSB.out w19 _ _ HS.out.an (H2.out.le (by decide))).mono ?_
    rintro e w20 ⟨v, rfl, hv, hg⟩
    replace H1 := hid (H1.out.gr hg)
    replace H2 := hid (H2.out.gr hg)
    replace H3 := hid (H3.out.gr hg)
    replace HS := hid (HS.out.gr hg)
    have HX := hid hv
    replace HG := hid (HG.out.trans hg)
    clear hg hv
    go_wp2_with fail
    refine (HCA.out w20 _ _ 1048577 (by decide) HX.out.an (H1.out.le (by decide))).mono ?_
    rintro e w21 ⟨rfl, hg⟩
    replace H1 := hid (H1.out.gr hg)
    replace H2 := hid (H2.out.gr hg)
    replace H3 := hid (H3.out.gr hg)
    replace HS := hid (HS.out.gr hg)
    replace HX := hid (HX.out.gr hg)
    replace HG := hid (HG.out.trans hg)
    clear hg
    clear HX
    clear HS
    go_wp2_with fail
    refine (divMod_c0 w21 _ _ a b 1048576 H1.out H2.out (by decide) HB0.out).mono ?_
    rintro e w22 ⟨rfl, hg⟩
    replace H1 := hid (H1.out.gr hg)
    replace H2 := hid (H2.out.gr hg)
    replace H3 := hid (H3.out.gr hg)
    replace HG := hid (HG.out.trans hg)
    clear hg
    go_wp2_with fail
    refine ((show Calls Tryd.prog 23 #[_] w22 (Is w22 (.int .i64 0)) by have h := bits_c w22 _ b 1048576 H2.out (by decide); rw [HB0.out] at h; exact h)).mono ?_
    rintro e w23 ⟨rfl, hg⟩
    replace H1 := hid (H1.out.gr hg)
    replace H2 := hid (H2.out.gr hg)
    replace H3 := hid (H3.out.gr hg)
    replace HG := hid (HG.out.trans hg)
    clear hg
    go_wp2_with fail
    refine (awake_c w23 (HT.out.gr HG.out)).mono ?_
    rintro e w24 ⟨rfl, hg⟩
    replace H1 := hid (H1.out.gr hg)
    replace H2 := hid (H2.out.gr hg)
    replace H3 := hid (H3.out.gr hg)
    replace HG := hid (HG.out.trans hg)
    clear hg
    go_wp2
    go_ret
    exact ⟨rfl, HG.out⟩
  · have HB0 : Hid (0 < b) := by unfold Hid; omega
    obtain ⟨bk, hbk⟩ : ∃ k : Int, k = bitsN b := ⟨_, rfl⟩
    have hbp : 0 < bk := by rw [hbk]; have := bitsN_pos hb; omega
    have HBT : Hid (∀ V : World, AN V v2 b 1048576 → Calls Tryd.prog 23 #[v2] V (Is V (.int .i64 bk))) := fun V h1 => by
      have h := bits_c V v2 b 1048576 h1 (by decide)
      rw [← hbk] at h
      exact h
    have HCR : Hid (∀ (V : World) (x y : Value), AN V x (a % b) 1048576 → AN V y b 1048576 → Calls Tryd.prog 25 #[x, y] V (Is V (.int .i64 (-1)))) := fun V x y h1 h2 => by
      have h := cmp_c V x y _ _ 1048576 h1 h2 (by decide)
      rw [cmpN_lt (Nat.mod_lt a HB0.out)] at h
      exact h
    clear hb hbk
    go_enter Tryd.func8, Tryd.ntmps8
    go_wp2_with fail
    refine (add_c W _ _ a b 1048576 H1.out H2.out (by decide)).mono ?_
    rintro e w1 ⟨v, rfl, hv, hg⟩
    replace H1 := hid (H1.out.gr hg)
    replace H2 := hid (H2.out.gr hg)
    replace H3 := hid (H3.out.gr hg)
    have HS := hid hv
    have HG := hid hg
    clear hg hv
    go_wp2_with fail
    refine (mul_c w1 _ _ a b 1048576 1048576 H1.out H2.out (by decide) (by decide)).mono ?_
    rintro e w2 ⟨v, rfl, hv, hg⟩
    replace H1 := hid (H1.out.gr hg)
    replace H2 := hid (H2.out.gr hg)
    replace H3 := hid (H3.out.gr hg)
    replace HS := hid (HS.out.gr hg)
    have HP := hid hv
    replace HG := hid (HG.out.trans hg)
    clear hg hv
    go_wp2_with fail
    refine (add_c w2 _ _ b a 1048576 H2.out H1.out (by decide)).mono ?_
    rintro e w3 ⟨v, rfl, hv, hg⟩
    replace H1 := hid (H1.out.gr hg)
    replace H2 := hid (H2.out.gr hg)
    replace H3 := hid (H3.out.gr hg)
    replace HS := hid (HS.out.gr hg)
    replace HP := hid (HP.out.gr hg)
    have HX := hid hv
    replace HG := hid (HG.out.trans hg)
    clear hg hv
    go_wp2_with fail
    refine (xsame_t w3 _ _ _ _ (a + b) 1048577 HS.out (by rw [Nat.add_comm a b]; exact HX.out) (by decide)).mono ?_
    rintro e w4 ⟨rfl, hg⟩
    replace H1 := hid (H1.out.gr hg)
    replace H2 := hid (H2.out.gr hg)
    replace H3 := hid (H3.out.gr hg)
    replace HS := hid (HS.out.gr hg)
    replace HP := hid (HP.out.gr hg)
    replace HX := hid (HX.out.gr hg)
    replace HG := hid (HG.out.trans hg)
    clear hg
    clear HX
    go_wp2_with fail
    refine (mul_c w4 _ _ b a 1048576 1048576 H2.out H1.out (by decide) (by decide)).mono ?_
    rintro e w5 ⟨v, rfl, hv, hg⟩
    replace H1 := hid (H1.out.gr hg)
    replace H2 := hid (H2.out.gr hg)
    replace H3 := hid (H3.out.gr hg)
    replace HS := hid (HS.out.gr hg)
    replace HP := hid (HP.out.gr hg)
    have HX := hid hv
    replace HG := hid (HG.out.trans hg)
    clear hg hv
    go_wp2_with fail
    refine (xsame_t w5 _ _ _ _ (a * b) 2097152 HP.out (by rw [Nat.mul_comm a b]; exact HX.out) (by decide)).mono ?_
    rintro e w6 ⟨rfl, hg⟩
    replace H1 := hid (H1.out.gr hg)
    replace H2 := hid (H2.out.gr hg)
    replace H3 := hid (H3.out.gr hg)
    replace HS := hid (HS.out.gr hg)
    replace HP := hid (HP.out.gr hg)
    replace HX := hid (HX.out.gr hg)
    replace HG := hid (HG.out.trans hg)
    clear hg
    clear HX
    go_wp2_with fail
    refine (add_c w6 _ _ (a + b) c 1048577 HS.out.an (H3.out.le (by decide)) (by decide)).mono ?_
    rintro e w7 ⟨v, rfl, hv, hg⟩
    replace H1 := hid (H1.out.gr hg)
    replace H2 := hid (H2.out.gr hg)
    replace H3 := hid (H3.out.gr hg)
    replace HS := hid (HS.out.gr hg)
    replace HP := hid (HP.out.gr hg)
    have HX := hid hv
    replace HG := hid (HG.out.trans hg)
    clear hg hv
    go_wp2_with fail
    refine (add_c w7 _ _ b c 1048576 H2.out H3.out (by decide)).mono ?_
    rintro e w8 ⟨v, rfl, hv, hg⟩
    replace H1 := hid (H1.out.gr hg)
    replace H2 := hid (H2.out.gr hg)
    replace H3 := hid (H3.out.gr hg)
    replace HS := hid (HS.out.gr hg)
    replace HP := hid (HP.out.gr hg)
    replace HX := hid (HX.out.gr hg)
    have HY := hid hv
    replace HG := hid (HG.out.trans hg)
    clear hg hv
    go_wp2_with fail
    refine (add_c w8 _ _ a (b + c) 1048577 (H1.out.le (by decide)) HY.out.an (by decide)).mono ?_
    rintro e w9 ⟨v, rfl, hv, hg⟩
    replace H1 := hid (H1.out.gr hg)
    replace H2 := hid (H2.out.gr hg)
    replace H3 := hid (H3.out.gr hg)
    replace HS := hid (HS.out.gr hg)
    replace HP := hid (HP.out.gr hg)
    replace HX := hid (HX.out.gr hg)
    replace HY := hid (HY.out.gr hg)
    have HZ := hid hv
    replace HG := hid (HG.out.trans hg)
    clear hg hv
    go_wp2_with fail
    refine (xsame_t w9 _ _ _ _ (a + b + c) 1048578 HX.out (by rw [Nat.add_assoc a b c]; exact HZ.out) (by decide)).mono ?_
    rintro e w10 ⟨rfl, hg⟩
    replace H1 := hid (H1.out.gr hg)
    replace H2 := hid (H2.out.gr hg)
    replace H3 := hid (H3.out.gr hg)
    replace HS := hid (HS.out.gr hg)
    replace HP := hid (HP.out.gr hg)
    replace HX := hid (HX.out.gr hg)
    replace HY := hid (HY.out.gr hg)
    replace HZ := hid (HZ.out.gr hg)
    replace HG := hid (HG.out.trans hg)
    clear hg
    clear HX
    clear HY
    clear HZ
    go_wp2_with fail
    refine (mul_c w10 _ _ (a * b) c 2097152 1048576 HP.out.an H3.out (by decide) (by decide)).mono ?_
    rintro e w11 ⟨v, rfl, hv, hg⟩
    replace H1 := hid (H1.out.gr hg)
    replace H2 := hid (H2.out.gr hg)
    replace H3 := hid (H3.out.gr hg)
    replace HS := hid (HS.out.gr hg)
    replace HP := hid (HP.out.gr hg)
    have HX := hid hv
    replace HG := hid (HG.out.trans hg)
    clear hg hv
    go_wp2_with fail
    refine (mul_c w11 _ _ b c 1048576 1048576 H2.out H3.out (by decide) (by decide)).mono ?_
    rintro e w12 ⟨v, rfl, hv, hg⟩
    replace H1 := hid (H1.out.gr hg)
    replace H2 := hid (H2.out.gr hg)
    replace H3 := hid (H3.out.gr hg)
    replace HS := hid (HS.out.gr hg)
    replace HP := hid (HP.out.gr hg)
    replace HX := hid (HX.out.gr hg)
    have HY := hid hv
    replace HG := hid (HG.out.trans hg)
    clear hg hv
    go_wp2_with fail
    refine (mul_c w12 _ _ a (b * c) 1048576 2097152 H1.out HY.out.an (by decide) (by decide)).mono ?_
    rintro e w13 ⟨v, rfl, hv, hg⟩
    replace H1 := hid (H1.out.gr hg)
    replace H2 := hid (H2.out.gr hg)
    replace H3 := hid (H3.out.gr hg)
    replace HS := hid (HS.out.gr hg)
    replace HP := hid (HP.out.gr hg)
    replace HX := hid (HX.out.gr hg)
    replace HY := hid (HY.out.gr hg)
    have HZ := hid hv
    replace HG := hid (HG.out.trans hg)
    clear hg hv
    go_wp2_with fail
    refine (xsame_t w13 _ _ _ _ (a * b * c) 3145728 HX.out (by rw [Nat.mul_assoc a b c]; exact HZ.out) (by decide)).mono ?_
    rintro e w14 ⟨rfl, hg⟩
    replace H1 := hid (H1.out.gr hg)
    replace H2 := hid (H2.out.gr hg)
    replace H3 := hid (H3.out.gr hg)
    replace HS := hid (HS.out.gr hg)
    replace HP := hid (HP.out.gr hg)
    replace HX := hid (HX.out.gr hg)
    replace HY := hid (HY.out.gr hg)
    replace HZ := hid (HZ.out.gr hg)
    replace HG := hid (HG.out.trans hg)
    clear hg
    clear HX
    clear HY
    clear HZ
    clear HP
    go_wp2_with fail
    refine (mul_c w14 _ _ (a + b) c 1048577 1048576 HS.out.an H3.out (by decide) (by decide)).mono ?_
    rintro e w15 ⟨v, rfl, hv, hg⟩
    replace H1 := hid (H1.out.gr hg)
    replace H2 := hid (H2.out.gr hg)
    replace H3 := hid (H3.out.gr hg)
    replace HS := hid (HS.out.gr hg)
    have HX := hid hv
    replace HG := hid (HG.out.trans hg)
    clear hg hv
    go_wp2_with fail
    refine (mul_c w15 _ _ a c 1048576 1048576 H1.out H3.out (by decide) (by decide)).mono ?_
    rintro e w16 ⟨v, rfl, hv, hg⟩
    replace H1 := hid (H1.out.gr hg)
    replace H2 := hid (H2.out.gr hg)
    replace H3 := hid (H3.out.gr hg)
    replace HS := hid (HS.out.gr hg)
    replace HX := hid (HX.out.gr hg)
    have HY := hid hv
    replace HG := hid (HG.out.trans hg)
    clear hg hv
    go_wp2_with fail
    refine (mul_c w16 _ _ b c 1048576 1048576 H2.out H3.out (by decide) (by decide)).mono ?_
    rintro e w17 ⟨v, rfl, hv, hg⟩
    replace H1 := hid (H1.out.gr hg)
    replace H2 := hid (H2.out.gr hg)
    replace H3 := hid (H3.out.gr hg)
    replace HS := hid (HS.out.gr hg)
    replace HX := hid (HX.out.gr hg)
    replace HY := hid (HY.out.gr hg)
    have HZ := hid hv
    replace HG := hid (HG.out.trans hg)
    clear hg hv
    go_wp2_with fail
    refine (add_c w17 _ _ (a * c) (b * c) 2097152 HY.out.an HZ.out.an (by decide)).mono ?_
    rintro e w18 ⟨v, rfl, hv, hg⟩
    replace H1 := hid (H1.out.gr hg)
    replace H2 := hid (H2.out.gr hg)
    replace H3 := hid (H3.out.gr hg)
    replace HS := hid (HS.out.gr hg)
    replace HX := hid (HX.out.gr hg)
    replace HY := hid (HY.out.gr hg)
    replace HZ := hid (HZ.out.gr hg)
    have HU := hid hv
    replace HG := hid (HG.out.trans hg)
    clear hg hv
    go_wp2_with fail
    refine (xsame_t w18 _ _ _ _ ((a + b) * c) 2097153 HX.out (by rw [Nat.add_mul a b c]; exact HU.out) (by decide)).mono ?_
    rintro e w19 ⟨rfl, hg⟩
    replace H1 := hid (H1.out.gr hg)
    replace H2 := hid (H2.out.gr hg)
    replace H3 := hid (H3.out.gr hg)
    replace HS := hid (HS.out.gr hg)
    replace HX := hid (HX.out.gr hg)
    replace HY := hid (HY.out.gr hg)
    replace HZ := hid (HZ.out.gr hg)
    replace HU := hid (HU.out.gr hg)
    replace HG := hid (HG.out.trans hg)
    clear hg
    clear HX
    clear HY
    clear HZ
    clear HU
    go_wp2_with fail
    refine (HSB.out w19 _ _ HS.out.an (H2.out.le (by decide))).mono ?_
    rintro e w20 ⟨v, rfl, hv, hg⟩
    replace H1 := hid (H1.out.gr hg)
    replace H2 := hid (H2.out.gr hg)
    replace H3 := hid (H3.out.gr hg)
    replace HS := hid (HS.out.gr hg)
    have HX := hid hv
    replace HG := hid (HG.out.trans hg)
    clear hg hv
    go_wp2_with fail
    refine (HCA.out w20 _ _ 1048577 (by decide) HX.out.an (H1.out.le (by decide))).mono ?_
    rintro e w21 ⟨rfl, hg⟩
    replace H1 := hid (H1.out.gr hg)
    replace H2 := hid (H2.out.gr hg)
    replace H3 := hid (H3.out.gr hg)
    replace HS := hid (HS.out.gr hg)
    replace HX := hid (HX.out.gr hg)
    replace HG := hid (HG.out.trans hg)
    clear hg
    clear HX
    clear HS
    go_wp2_with fail
    refine (divMod_c w21 _ _ a b 1048576 H1.out H2.out (by decide) HB0.out).mono ?_
    rintro e w22 ⟨u, v, rfl, ⟨hv1, hv2⟩, hg⟩
    replace H1 := hid (H1.out.gr hg)
    replace H2 := hid (H2.out.gr hg)
    replace H3 := hid (H3.out.gr hg)
    have HQ := hid hv1
    have HR := hid hv2
    replace HG := hid (HG.out.trans hg)
    clear hg hv1 hv2
    go_wp2_with fail
    refine (HBT.out w22 H2.out).mono ?_
    rintro e w23 ⟨rfl, hg⟩
    replace H1 := hid (H1.out.gr hg)
    replace H2 := hid (H2.out.gr hg)
    replace H3 := hid (H3.out.gr hg)
    replace HQ := hid (HQ.out.gr hg)
    replace HR := hid (HR.out.gr hg)
    replace HG := hid (HG.out.trans hg)
    clear hg
    go_wp2_with fail
    refine (mul_c w23 _ _ (a / b) b 1048576 1048576 HQ.out.an H2.out (by decide) (by decide)).mono ?_
    rintro e w24 ⟨v, rfl, hv, hg⟩
    replace H1 := hid (H1.out.gr hg)
    replace H2 := hid (H2.out.gr hg)
    replace H3 := hid (H3.out.gr hg)
    replace HQ := hid (HQ.out.gr hg)
    replace HR := hid (HR.out.gr hg)
    have HX := hid hv
    replace HG := hid (HG.out.trans hg)
    clear hg hv
    go_wp2_with fail
    refine (add_c w24 _ _ (a / b * b) (a % b) 2097152 HX.out.an (HR.out.le (by decide)).an (by decide)).mono ?_
    rintro e w25 ⟨v, rfl, hv, hg⟩
    replace H1 := hid (H1.out.gr hg)
    replace H2 := hid (H2.out.gr hg)
    replace H3 := hid (H3.out.gr hg)
    replace HQ := hid (HQ.out.gr hg)
    replace HR := hid (HR.out.gr hg)
    replace HX := hid (HX.out.gr hg)
    have HY := hid hv
    replace HG := hid (HG.out.trans hg)
    clear hg hv
    go_wp2_with fail
    refine (HCA.out w25 _ _ 2097153 (by decide) (by have h := HY.out.an; rw [Nat.div_add_mod'] at h; exact h) (H1.out.le (by decide))).mono ?_
    rintro e w26 ⟨rfl, hg⟩
    replace H1 := hid (H1.out.gr hg)
    replace H2 := hid (H2.out.gr hg)
    replace H3 := hid (H3.out.gr hg)
    replace HQ := hid (HQ.out.gr hg)
    replace HR := hid (HR.out.gr hg)
    replace HX := hid (HX.out.gr hg)
    replace HY := hid (HY.out.gr hg)
    replace HG := hid (HG.out.trans hg)
    clear hg
    go_wp2_with fail
    refine (HCR.out w26 _ _ HR.out.an H2.out).mono ?_
    rintro e w27 ⟨rfl, hg⟩
    replace H1 := hid (H1.out.gr hg)
    replace H2 := hid (H2.out.gr hg)
    replace H3 := hid (H3.out.gr hg)
    replace HQ := hid (HQ.out.gr hg)
    replace HR := hid (HR.out.gr hg)
    replace HX := hid (HX.out.gr hg)
    replace HY := hid (HY.out.gr hg)
    replace HG := hid (HG.out.trans hg)
    clear hg
    go_wp2_with fail
    refine (awake_c w27 (HT.out.gr HG.out)).mono ?_
    rintro e w28 ⟨rfl, hg⟩
    replace H1 := hid (H1.out.gr hg)
    replace H2 := hid (H2.out.gr hg)
    replace H3 := hid (H3.out.gr hg)
    replace HQ := hid (HQ.out.gr hg)
    replace HR := hid (HR.out.gr hg)
    replace HX := hid (HX.out.gr hg)
    replace HY := hid (HY.out.gr hg)
    replace HG := hid (HG.out.trans hg)
    clear hg
    go_wp2
    go_ret
    exact ⟨rfl, HG.out⟩
end Go.Proofs.YtkbgdiejjabdmaaDoor
