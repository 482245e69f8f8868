/- The walk of the examples that every law of nat checks. -/
import Derived.Test.YtkbgdiejjabdmaaDoorPrA
import Derived.Test.YtkbgdiejjabdmaaDoorSmA
import Derived.Test.YtkbgdiejjabdmaaDoorNatM
namespace Go.Proofs.YtkbgdiejjabdmaaDoor
open Go.RowKit

theorem limbs_big : limbs 18446744073709551616 = [0, 0, 1] := by
  rw [limbs_pos (by decide), show 18446744073709551616 / 4294967296 = 4294967296 by decide, limbs_pos (n := 4294967296) (by decide), show 4294967296 / 4294967296 = 1 by decide, limbs_pos (n := 1) (by decide), show 1 / 4294967296 = 0 by decide, limbs_zero]
  rfl
theorem limbs_small {n : Nat} (h0 : n ≠ 0) (h : n < 4294967296) : limbs n = [(n : Int)] := by
  rw [limbs_pos h0, Nat.mod_eq_of_lt h, Nat.div_eq_of_lt h, limbs_zero]
/-- A slice literal of one limb. -/
theorem VN.lit (w : World) (n : Nat) (h0 : n ≠ 0) (h : n < 4294967296) : VN (w.alloc (.cells #[.int .u32 (n : Int)] 78)) w.heap.size (.slice (some ⟨w.heap.size, 0, none⟩) 1 1) n 1 := by
  have hb := heap_alloc_new w (.cells #[.int .u32 (n : Int)] 78)
  refine ⟨some ⟨w.heap.size, 0, none⟩, 1, by rw [limbs_small h0 h]; rfl, ?_, by rw [limbs_small h0 h]; exact Nat.le_refl _, Own.of_block hb (Nat.le_refl _) _⟩
  rw [limbs_small h0 h]
  refine RdN.of_block hb (fun y hy => by simp at hy; omega) (Nat.le_refl _) (fun j hj => ?_)
  obtain rfl : j = 0 := by simpa using hj
  rfl
theorem lit3 (w : World) : AN (w.alloc (.cells #[.int .u32 7, .int .u32 0, .int .u32 0] 78)) (.slice (some ⟨w.heap.size, 0, none⟩) 3 3) 7 3 := by
  have hb := heap_alloc_new w (.cells #[.int .u32 7, .int .u32 0, .int .u32 0] 78)
  refine ⟨some ⟨w.heap.size, 0, none⟩, 3, [7, 0, 0], rfl, ?_, rfl, by decide⟩
  refine RdN.of_block hb (fun y hy => by simp at hy; omega) (Nat.le_refl _) (fun j hj => ?_)
  match j, hj with
  | 0, _ => rfl
  | 1, _ => rfl
  | 2, _ => rfl
theorem dec_18446744073709551616 : Lib.decDigits 18446744073709551616 = [49, 56, 52, 52, 54, 55, 52, 52, 48, 55, 51, 55, 48, 57, 53, 53, 49, 54, 49, 54] := by
  have h := dec_parse (l := [49, 56, 52, 52, 54, 55, 52, 52, 48, 55, 51, 55, 48, 57, 53, 53, 49, 54, 49, 54]) (by decide +kernel)
  rwa [show pVal [49, 56, 52, 52, 54, 55, 52, 52, 48, 55, 51, 55, 48, 57, 53, 53, 49, 54, 49, 54] = 18446744073709551616 from by decide +kernel] at h
theorem dec_6 : Lib.decDigits 6 = [54] := by
  have h := dec_parse (l := [54]) (by decide +kernel)
  rwa [show pVal [54] = 6 from by decide +kernel] at h
theorem dec_2 : Lib.decDigits 2 = [50] := by
  have h := dec_parse (l := [50]) (by decide +kernel)
  rwa [show pVal [50] = 2 from by decide +kernel] at h
theorem dec_998244359987710471 : Lib.decDigits 998244359987710471 = [57, 57, 56, 50, 52, 52, 51, 53, 57, 57, 56, 55, 55, 49, 48, 52, 55, 49] := by
  have h := dec_parse (l := [57, 57, 56, 50, 52, 52, 51, 53, 57, 57, 56, 55, 55, 49, 48, 52, 55, 49]) (by decide +kernel)
  rwa [show pVal [57, 57, 56, 50, 52, 52, 51, 53, 57, 57, 56, 55, 55, 49, 48, 52, 55, 49] = 998244359987710471 from by decide +kernel] at h
theorem dec_4294967296 : Lib.decDigits 4294967296 = [52, 50, 57, 52, 57, 54, 55, 50, 57, 54] := by
  have h := dec_parse (l := [52, 50, 57, 52, 57, 54, 55, 50, 57, 54]) (by decide +kernel)
  rwa [show pVal [52, 50, 57, 52, 57, 54, 55, 50, 57, 54] = 4294967296 from by decide +kernel] at h

set_option maxRecDepth 100000 in
set_option maxHeartbeats 8000000 in
theorem awake_c (w : World) (ht : Tab w) : Calls Tryd.prog 32 #[] w (Is w (.bool true)) := by
  have HT := hid ht
  have HPA : Hid (∀ V : World, Calls Tryd.prog 45 #[.string ⟨#[49, 56, 52, 52, 54, 55, 52, 52, 48, 55, 51, 55, 48, 57, 53, 53, 49, 54, 49, 54]⟩] V (RetE V 0 fun v w' => VN w' V.heap.size v 18446744073709551616 400)) := fun V => by
    have h := parse_c V ⟨#[49, 56, 52, 52, 54, 55, 52, 52, 48, 55, 51, 55, 48, 57, 53, 53, 49, 54, 49, 54]⟩ (by decide)
    rw [show pErr (ByteArray.mk #[49, 56, 52, 52, 54, 55, 52, 52, 48, 55, 51, 55, 48, 57, 53, 53, 49, 54, 49, 54]).data.toList = 0 from by decide +kernel, show pVal (ByteArray.mk #[49, 56, 52, 52, 54, 55, 52, 52, 48, 55, 51, 55, 48, 57, 53, 53, 49, 54, 49, 54]).data.toList = 18446744073709551616 from by decide +kernel] at h
    exact h
  have HP18446744073709551616 : Hid (∀ (V : World) (v : Value), Tab V → AN V v 18446744073709551616 500 → Calls Tryd.prog 47 #[v] V (Is V (.string ⟨#[49, 56, 52, 52, 54, 55, 52, 52, 48, 55, 51, 55, 48, 57, 53, 53, 49, 54, 49, 54]⟩))) := fun V v h1 h2 => by
    have h := print_c V v 18446744073709551616 500 h2 (by decide) h1
    rw [dec_18446744073709551616] at h
    exact h
  have HP6 : Hid (∀ (V : World) (v : Value), Tab V → AN V v 6 500 → Calls Tryd.prog 47 #[v] V (Is V (.string ⟨#[54]⟩))) := fun V v h1 h2 => by
    have h := print_c V v 6 500 h2 (by decide) h1
    rw [dec_6] at h
    exact h
  have HP2 : Hid (∀ (V : World) (v : Value), Tab V → AN V v 2 500 → Calls Tryd.prog 47 #[v] V (Is V (.string ⟨#[50]⟩))) := fun V v h1 h2 => by
    have h := print_c V v 2 500 h2 (by decide) h1
    rw [dec_2] at h
    exact h
  have HP998244359987710471 : Hid (∀ (V : World) (v : Value), Tab V → AN V v 998244359987710471 500 → Calls Tryd.prog 47 #[v] V (Is V (.string ⟨#[57, 57, 56, 50, 52, 52, 51, 53, 57, 57, 56, 55, 55, 49, 48, 52, 55, 49]⟩))) := fun V v h1 h2 => by
    have h := print_c V v 998244359987710471 500 h2 (by decide) h1
    rw [dec_998244359987710471] at h
    exact h
  have HP4294967296 : Hid (∀ (V : World) (v : Value), Tab V → AN V v 4294967296 500 → Calls Tryd.prog 47 #[v] V (Is V (.string ⟨#[52, 50, 57, 52, 57, 54, 55, 50, 57, 54]⟩))) := fun V v h1 h2 => by
    have h := print_c V v 4294967296 500 h2 (by decide) h1
    rw [dec_4294967296] at h
    exact h
  have HBT : Hid (∀ (V : World) (v : Value), AN V v 18446744073709551616 400 → Calls Tryd.prog 23 #[v] V (Is V (.int .i64 65))) := fun V v h1 => by
    have h := bits_c V v _ 400 h1 (by decide)
    rw [show bitsN 18446744073709551616 = 65 from by decide +kernel] at h
    exact h
  have HDM : Hid (∀ (V : World) (x y : Value), AN V x 18446744073709551616 400 → AN V y 10 400 → Calls Tryd.prog 39 #[x, y] V (RetVB V true fun u v w' => VN w' V.heap.size u 1844674407370955161 400 ∧ VN w' V.heap.size v 6 400)) := fun V x y h1 h2 => divMod_c V x y _ _ 400 h1 h2 (by decide) (by decide)
  have HUI : Hid (∀ (V : World) (v : Value), AN V v 1844674407370955161 400 → Calls Tryd.prog 21 #[v] V (Is V (.tuple #[.int .u64 1844674407370955161, .bool true]))) := fun V v h1 => by
    have h := uint_c V v _ 400 h1 (by decide)
    rw [show uN 1844674407370955161 = 1844674407370955161 from by decide +kernel, show uB 1844674407370955161 = true from by decide +kernel] at h
    exact h
  have HSM : Hid (∀ (V : World) (b1 b2 : Nat) (u v : Value), VN V b1 u 6 400 → VN V b2 v 6 400 → Calls Tryd.prog 27 #[u, v] V (Is V (.bool true))) := fun V b1 b2 u v h1 h2 => xsame_t V b1 b2 u v 6 400 h1 h2 (by decide)
  have HC1 : Hid (∀ (V : World) (x y : Value), AN V x 1844674407370955161 400 → AN V y 18446744073709551616 400 → Calls Tryd.prog 25 #[x, y] V (Is V (.int .i64 (-1)))) := fun V x y h1 h2 => by
    have h := cmp_c V x y _ _ 400 h1 h2 (by decide)
    rw [show cmpN 1844674407370955161 18446744073709551616 = -1 from by decide +kernel] at h
    exact h
  have HPW : Hid (∀ (V : World) (x : Value), AN V x 2 1 → Calls Tryd.prog 43 #[x, .int .i64 64] V (RetB V true fun v w' => VN w' V.heap.size v 18446744073709551616 1025)) := fun V x h1 => by
    have h := pow_c V x 2 1 64 h1 (by decide)
    exact h
  have HC2 : Hid (∀ (V : World) (x y : Value), AN V x 18446744073709551616 1025 → AN V y 18446744073709551616 1025 → Calls Tryd.prog 25 #[x, y] V (Is V (.int .i64 0))) := fun V x y h1 h2 => by
    have h := cmp_c V x y _ _ 1025 h1 h2 (by decide)
    rw [show cmpN 18446744073709551616 18446744073709551616 = 0 from by decide +kernel] at h
    exact h
  have HGC : Hid (∀ (V : World) (x y : Value), AN V x 12 2 → AN V y 18 2 → Calls Tryd.prog 41 #[x, y] V (Ret V fun v w' => VN w' V.heap.size v 6 2)) := fun V x y h1 h2 => gcd_c V x y 12 18 2 h1 h2 (by decide)
  have HS1 : Hid (∀ (V : World) (x y : Value), AN V x 3 2 → AN V y 5 2 → Calls Tryd.prog 33 #[x, y] V (RetB V false fun v w' => VN w' V.heap.size v 0 2)) := fun V x y h1 h2 => sub_c V x y 3 5 2 h1 h2 (by decide)
  have HS2 : Hid (∀ (V : World) (x y : Value), AN V x 5 2 → AN V y 3 2 → Calls Tryd.prog 33 #[x, y] V (RetB V true fun v w' => VN w' V.heap.size v 2 2)) := fun V x y h1 h2 => sub_c V x y 5 3 2 h1 h2 (by decide)
  have HMU : Hid (∀ (V : World) (x y : Value), AN V x 1000000007 2 → AN V y 998244353 2 → Calls Tryd.prog 37 #[x, y] V (Ret V fun v w' => VN w' V.heap.size v 998244359987710471 4)) := fun V x y h1 h2 => mul_c V x y 1000000007 998244353 2 2 h1 h2 (by decide) (by decide)
  have HAD : Hid (∀ (V : World) (x y : Value), AN V x 4294967295 2 → AN V y 1 2 → Calls Tryd.prog 35 #[x, y] V (Ret V fun v w' => VN w' V.heap.size v 4294967296 3)) := fun V x y h1 h2 => add_c V x y 4294967295 1 2 h1 h2 (by decide)
  have HNM : Hid (∀ (V : World) (x : Value), AN V x 7 3 → Calls Tryd.prog 30 #[x] V (Ret V fun v w' => VN w' V.heap.size v 7 3)) := fun V x h1 => norm_c V x 7 3 h1 (by decide)
  have HO10 : Hid (∀ V : World, Calls Tryd.prog 28 #[.int .u64 10] V (Ret V fun v w' => VN w' V.heap.size v 10 2)) := fun V => of_c V 10 (by decide) (by decide)
  have HO12 : Hid (∀ V : World, Calls Tryd.prog 28 #[.int .u64 12] V (Ret V fun v w' => VN w' V.heap.size v 12 2)) := fun V => of_c V 12 (by decide) (by decide)
  have HO18 : Hid (∀ V : World, Calls Tryd.prog 28 #[.int .u64 18] V (Ret V fun v w' => VN w' V.heap.size v 18 2)) := fun V => of_c V 18 (by decide) (by decide)
  have HO3 : Hid (∀ V : World, Calls Tryd.prog 28 #[.int .u64 3] V (Ret V fun v w' => VN w' V.heap.size v 3 2)) := fun V => of_c V 3 (by decide) (by decide)
  have HO5 : Hid (∀ V : World, Calls Tryd.prog 28 #[.int .u64 5] V (Ret V fun v w' => VN w' V.heap.size v 5 2)) := fun V => of_c V 5 (by decide) (by decide)
  have HO1000000007 : Hid (∀ V : World, Calls Tryd.prog 28 #[.int .u64 1000000007] V (Ret V fun v w' => VN w' V.heap.size v 1000000007 2)) := fun V => of_c V 1000000007 (by decide) (by decide)
  have HO998244353 : Hid (∀ V : World, Calls Tryd.prog 28 #[.int .u64 998244353] V (Ret V fun v w' => VN w' V.heap.size v 998244353 2)) := fun V => of_c V 998244353 (by decide) (by decide)
  have HO4294967295 : Hid (∀ V : World, Calls Tryd.prog 28 #[.int .u64 4294967295] V (Ret V fun v w' => VN w' V.heap.size v 4294967295 2)) := fun V => of_c V 4294967295 (by decide) (by decide)
  have HO1 : Hid (∀ V : World, Calls Tryd.prog 28 #[.int .u64 1] V (Ret V fun v w' => VN w' V.heap.size v 1 2)) := fun V => of_c V 1 (by decide) (by decide)
  clear ht
  go_enter Tryd.func32, Tryd.ntmps32
  go_wp2_with fail
  refine (HPA.out w).mono ?_
  rintro e w1 ⟨v, rfl, ⟨A, c, rfl, hr, hl, ho⟩, hg⟩
  have HA : Hid (VN w1 w.heap.size (.slice A 3 c) 18446744073709551616 400) := ⟨A, c, by rw [limbs_big]; rfl, hr, hl, ho⟩
  rw [show (limbs 18446744073709551616).length = 3 from by rw [limbs_big]; rfl]
  have hc := hr.cells (by rw [limbs_big]; decide)
  rw [limbs_big] at hc
  obtain ⟨ag, ao, rfl, hc⟩ := hc
  have a0 : w1.cell? ⟨ag, ao, none⟩ = some (.int .u32 0) := hc 0 (by decide)
  have a1 : w1.cell? ⟨ag, ao + 1, none⟩ = some (.int .u32 0) := hc 1 (by decide)
  have a2 : w1.cell? ⟨ag, ao + 2, none⟩ = some (.int .u32 1) := hc 2 (by decide)
  have HG := hid hg
  clear hr hl ho hg hc
  go_wp2_with fail
  refine (HP18446744073709551616.out w1 _ (HT.out.gr HG.out) (HA.out.le (by decide)).an).mono ?_
  rintro e w2 ⟨rfl, hg⟩
  replace HA := hid (HA.out.gr hg)
  replace HG := hid (HG.out.trans hg)
  clear hg
  clear a0 a1 a2
  go_wp2_with fail
  refine (HBT.out w2 _ HA.out.an).mono ?_
  rintro e w3 ⟨rfl, hg⟩
  replace HA := hid (HA.out.gr hg)
  replace HG := hid (HG.out.trans hg)
  clear hg
  go_wp2_with fail
  refine (HO10.out w3).mono ?_
  rintro e w4 ⟨v, rfl, hv, hg⟩
  replace HA := hid (HA.out.gr hg)
  have H10 := hid hv
  replace HG := hid (HG.out.trans hg)
  clear hg hv
  go_wp2_with fail
  refine (HDM.out w4 _ _ HA.out.an (H10.out.le (by decide)).an).mono ?_
  rintro e w5 ⟨q, r, rfl, ⟨hv1, hv2⟩, hg⟩
  replace HA := hid (HA.out.gr hg)
  replace H10 := hid (H10.out.gr hg)
  have HQ := hid hv1
  have HR := hid hv2
  replace HG := hid (HG.out.trans hg)
  clear hg hv1 hv2
  clear H10
  go_wp2_with fail
  refine (HUI.out w5 _ HQ.out.an).mono ?_
  rintro e w6 ⟨rfl, hg⟩
  replace HA := hid (HA.out.gr hg)
  replace HQ := hid (HQ.out.gr hg)
  replace HR := hid (HR.out.gr hg)
  replace HG := hid (HG.out.trans hg)
  clear hg
  go_wp2_with fail
  refine (HSM.out _ _ _ _ _ (HR.out.gr (Gr.alloc w6 _)) ((VN.lit w6 6 (by decide) (by decide)).le (by decide))).mono ?_
  rintro e w7 ⟨rfl, hg⟩
  replace hg := (Gr.alloc _ _).trans hg
  replace HA := hid (HA.out.gr hg)
  replace HQ := hid (HQ.out.gr hg)
  replace HR := hid (HR.out.gr hg)
  replace HG := hid (HG.out.trans hg)
  clear hg
  go_wp2_with fail
  refine (HC1.out w7 _ _ HQ.out.an HA.out.an).mono ?_
  rintro e w8 ⟨rfl, hg⟩
  replace HA := hid (HA.out.gr hg)
  replace HQ := hid (HQ.out.gr hg)
  replace HR := hid (HR.out.gr hg)
  replace HG := hid (HG.out.trans hg)
  clear hg
  clear HQ
  clear HR
  go_wp2_with fail
  refine (HPW.out _ _ (VN.lit w8 2 (by decide) (by decide)).an).mono ?_
  rintro e w9 ⟨v, rfl, hv, hg⟩
  replace hg := (Gr.alloc _ _).trans hg
  replace HA := hid (HA.out.gr hg)
  have HP := hid hv
  replace HG := hid (HG.out.trans hg)
  clear hg hv
  go_wp2_with fail
  refine (HC2.out w9 _ _ HP.out.an (HA.out.le (by decide)).an).mono ?_
  rintro e w10 ⟨rfl, hg⟩
  replace HA := hid (HA.out.gr hg)
  replace HP := hid (HP.out.gr hg)
  replace HG := hid (HG.out.trans hg)
  clear hg
  clear HP
  clear HA
  go_wp2_with fail
  refine (HO12.out w10).mono ?_
  rintro e w11 ⟨v, rfl, hv, hg⟩
  have H12 := hid hv
  replace HG := hid (HG.out.trans hg)
  clear hg hv
  go_wp2_with fail
  refine (HO18.out w11).mono ?_
  rintro e w12 ⟨v, rfl, hv, hg⟩
  replace H12 := hid (H12.out.gr hg)
  have H18 := hid hv
  replace HG := hid (HG.out.trans hg)
  clear hg hv
  go_wp2_with fail
  refine (HGC.out w12 _ _ H12.out.an H18.out.an).mono ?_
  rintro e w13 ⟨v, rfl, hv, hg⟩
  replace H12 := hid (H12.out.gr hg)
  replace H18 := hid (H18.out.gr hg)
  have HC := hid hv
  replace HG := hid (HG.out.trans hg)
  clear hg hv
  clear H12
  clear H18
  go_wp2_with fail
  refine (HP6.out w13 _ (HT.out.gr HG.out) (HC.out.le (by decide)).an).mono ?_
  rintro e w14 ⟨rfl, hg⟩
  replace HC := hid (HC.out.gr hg)
  replace HG := hid (HG.out.trans hg)
  clear hg
  clear HC
  go_wp2_with fail
  refine (HO3.out w14).mono ?_
  rintro e w15 ⟨v, rfl, hv, hg⟩
  have H3 := hid hv
  replace HG := hid (HG.out.trans hg)
  clear hg hv
  go_wp2_with fail
  refine (HO5.out w15).mono ?_
  rintro e w16 ⟨v, rfl, hv, hg⟩
  replace H3 := hid (H3.out.gr hg)
  have H5 := hid hv
  replace HG := hid (HG.out.trans hg)
  clear hg hv
  go_wp2_with fail
  refine (HS1.out w16 _ _ H3.out.an H5.out.an).mono ?_
  rintro e w17 ⟨v, rfl, hv, hg⟩
  replace H3 := hid (H3.out.gr hg)
  replace H5 := hid (H5.out.gr hg)
  have HC := hid hv
  replace HG := hid (HG.out.trans hg)
  clear hg hv
  clear H3
  clear H5
  clear HC
  go_wp2_with fail
  refine (HO5.out w17).mono ?_
  rintro e w18 ⟨v, rfl, hv, hg⟩
  have H5 := hid hv
  replace HG := hid (HG.out.trans hg)
  clear hg hv
  go_wp2_with fail
  refine (HO3.out w18).mono ?_
  rintro e w19 ⟨v, rfl, hv, hg⟩
  replace H5 := hid (H5.out.gr hg)
  have H3 := hid hv
  replace HG := hid (HG.out.trans hg)
  clear hg hv
  go_wp2_with fail
  refine (HS2.out w19 _ _ H5.out.an H3.out.an).mono ?_
  rintro e w20 ⟨v, rfl, hv, hg⟩
  replace H5 := hid (H5.out.gr hg)
  replace H3 := hid (H3.out.gr hg)
  have HC := hid hv
  replace HG := hid (HG.out.trans hg)
  clear hg hv
  clear H3
  clear H5
  go_wp2_with fail
  refine (HP2.out w20 _ (HT.out.gr HG.out) (HC.out.le (by decide)).an).mono ?_
  rintro e w21 ⟨rfl, hg⟩
  replace HC := hid (HC.out.gr hg)
  replace HG := hid (HG.out.trans hg)
  clear hg
  clear HC
  go_wp2_with fail
  refine (HO1000000007.out w21).mono ?_
  rintro e w22 ⟨v, rfl, hv, hg⟩
  have H3 := hid hv
  replace HG := hid (HG.out.trans hg)
  clear hg hv
  go_wp2_with fail
  refine (HO998244353.out w22).mono ?_
  rintro e w23 ⟨v, rfl, hv, hg⟩
  replace H3 := hid (H3.out.gr hg)
  have H5 := hid hv
  replace HG := hid (HG.out.trans hg)
  clear hg hv
  go_wp2_with fail
  refine (HMU.out w23 _ _ H3.out.an H5.out.an).mono ?_
  rintro e w24 ⟨v, rfl, hv, hg⟩
  replace H3 := hid (H3.out.gr hg)
  replace H5 := hid (H5.out.gr hg)
  have HC := hid hv
  replace HG := hid (HG.out.trans hg)
  clear hg hv
  clear H3
  clear H5
  go_wp2_with fail
  refine (HP998244359987710471.out w24 _ (HT.out.gr HG.out) (HC.out.le (by decide)).an).mono ?_
  rintro e w25 ⟨rfl, hg⟩
  replace HC := hid (HC.out.gr hg)
  replace HG := hid (HG.out.trans hg)
  clear hg
  clear HC
  go_wp2_with fail
  refine (HO4294967295.out w25).mono ?_
  rintro e w26 ⟨v, rfl, hv, hg⟩
  have H3 := hid hv
  replace HG := hid (HG.out.trans hg)
  clear hg hv
  go_wp2_with fail
  refine (HO1.out w26).mono ?_
  rintro e w27 ⟨v, rfl, hv, hg⟩
  replace H3 := hid (H3.out.gr hg)
  have H5 := hid hv
  replace HG := hid (HG.out.trans hg)
  clear hg hv
  go_wp2_with fail
  refine (HAD.out w27 _ _ H3.out.an H5.out.an).mono ?_
  rintro e w28 ⟨v, rfl, hv, hg⟩
  replace H3 := hid (H3.out.gr hg)
  replace H5 := hid (H5.out.gr hg)
  have HC := hid hv
  replace HG := hid (HG.out.trans hg)
  clear hg hv
  clear H3
  clear H5
  go_wp2_with fail
  refine (HP4294967296.out w28 _ (HT.out.gr HG.out) (HC.out.le (by decide)).an).mono ?_
  rintro e w29 ⟨rfl, hg⟩
  replace HC := hid (HC.out.gr hg)
  replace HG := hid (HG.out.trans hg)
  clear hg
  clear HC
  go_wp2_with fail
  refine (HNM.out _ _ (lit3 w29)).mono ?_
  rintro e w30 ⟨v, rfl, ⟨A7, c7, rfl, _, _, _⟩, hg⟩
  replace hg := (Gr.alloc _ _).trans hg
  replace HG := hid (HG.out.trans hg)
  clear hg
  rw [show (limbs 7).length = 1 from by rw [limbs_small (by decide) (by decide)]; rfl]
  go_wp2
  go_ret
  exact ⟨rfl, HG.out⟩
end Go.Proofs.YtkbgdiejjabdmaaDoor
