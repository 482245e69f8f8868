/- The walk of nat.DivMod, as numbers. -/
import Derived.Test.YtkbgdiejjabdmaaDoorNatG
import Derived.Test.YtkbgdiejjabdmaaDoorPl
import Derived.Deep.RegionHeld3
namespace Go.Proofs.YtkbgdiejjabdmaaDoor
open Go.RowKit

theorem shift_fits {x y : List Int} {X Y s : Nat} (hx : x = limbs X) (hy : y = limbs Y) {k : Nat} (hk : y.length = k + 1) (_hs : s < 32) (hle : y.length ≤ x.length) : X * 2 ^ s < Y * 2 ^ s * 4294967296 ^ (x.length - k) := by
  have h1 := val_lt (limbs_lim X)
  rw [val_limbs, ← hx] at h1
  have h2 := limbs_ge (n := Y) (k := k) (by rw [← hy]; exact hk)
  have h3 : 4294967296 ^ k * 4294967296 ^ (x.length - k) ≤ Y * 4294967296 ^ (x.length - k) := Nat.mul_le_mul_right _ h2
  rw [← Nat.pow_add, show k + (x.length - k) = x.length by omega] at h3
  have h4 : 0 < 2 ^ s := Nat.two_pow_pos s
  have h5 : X * 2 ^ s < (Y * 4294967296 ^ (x.length - k)) * 2 ^ s := Nat.mul_lt_mul_of_pos_right (by omega) h4
  have h6 : (Y * 4294967296 ^ (x.length - k)) * 2 ^ s = Y * 2 ^ s * 4294967296 ^ (x.length - k) := by grind
  omega

set_option maxHeartbeats 1000000 in
theorem divMod_c0 (w : World) (v1 v2 : Value) (m n L : Nat) (h1 : AN w v1 m L) (h2 : AN w v2 n L) (hL : L ≤ 1099511627776) (h0 : n = 0) :
    Calls Tryd.prog 39 #[v1, v2] w fun e w' => e = .returned (.tuple #[.slice none 0 0, .slice none 0 0, .bool false]) ∧ Gr w w' := by
  obtain ⟨A1, c1, xs, rfl, hr1, rfl, hl1⟩ := h1
  obtain ⟨A2, c2, ys, rfl, hr2, rfl, hl2⟩ := h2
  have T1 := hr1.trim
  have T2 := hr2.trim
  have t1 := limbs_val_le hr1.lim
  have t2 := limbs_val_le hr2.lim
  obtain ⟨x, hx⟩ : ∃ x, x = limbs (val xs) := ⟨_, rfl⟩
  obtain ⟨y, hy⟩ : ∃ y, y = limbs (val ys) := ⟨_, rfl⟩
  have b1 : x.length ≤ 1099511627776 := by rw [hx]; omega
  have b2 : y.length ≤ 1099511627776 := by rw [hy]; omega
  rw [← hx] at T1 t1
  rw [← hy] at T2 t2
  have R1 := hid hr1
  have R2 := hid hr2
  have L1 := hid (show xs.length ≤ 1099511627776 by omega)
  have L2 := hid (show ys.length ≤ 1099511627776 by omega)
  have LX := hid (show x.length ≤ L by omega)
  have LY := hid (show y.length ≤ L by omega)
  have HX := hid hx
  have HY := hid hy
  have HT1 := hid T1
  have HT2 := hid T2
  have C1 := hid T1.cells
  have C2 := hid T2.cells
  have AX : Hid (AN w (.slice A1 x.length x.length) (val xs) L) := ⟨A1, _, x, rfl, T1, by rw [hx, val_limbs], by omega⟩
  have AY : Hid (AN w (.slice A2 y.length y.length) (val ys) L) := ⟨A2, _, y, rfl, T2, by rw [hy, val_limbs], by omega⟩
  have HLL := hid hL
  clear hr1 hr2 hl1 hl2 hL T1 T2 hx hy t1 t2
  have hy0 : y.length = 0 := by rw [HY.out, h0, limbs_zero]; rfl
  have HY0 := hid hy0
  clear hy0 h0 b2
  go_enter Tryd.func39, Tryd.ntmps39
  go_wp2_with fail
  refine (trim_c _ _ _ _ R1.out (Nat.le_trans L1.out (by decide))).mono ?_
  rw [← HX.out]
  rintro e w' ⟨rfl, rfl⟩
  go_wp2_with fail
  refine (trim_c _ _ _ _ R2.out (Nat.le_trans L2.out (by decide))).mono ?_
  rw [← HY.out, HY0.out]
  rintro e w' ⟨rfl, rfl⟩
  go_wp2
  go_ret3
  exact ⟨rfl, Gr.refl _⟩

set_option maxHeartbeats 1000000 in
theorem divMod_c1 (w : World) (v1 v2 : Value) (m n L : Nat) (h1 : AN w v1 m L) (h2 : AN w v2 n L) (hL : L ≤ 1099511627776) (hmn : m < n) :
    Calls Tryd.prog 39 #[v1, v2] w (RetVB w true fun u v w' => VN w' w.heap.size u (m / n) L ∧ VN w' w.heap.size v (m % n) L) := by
  rw [Nat.div_eq_of_lt hmn, Nat.mod_eq_of_lt hmn]
  obtain ⟨A1, c1, xs, rfl, hr1, rfl, hl1⟩ := h1
  obtain ⟨A2, c2, ys, rfl, hr2, rfl, hl2⟩ := h2
  have T1 := hr1.trim
  have T2 := hr2.trim
  have t1 := limbs_val_le hr1.lim
  have t2 := limbs_val_le hr2.lim
  obtain ⟨x, hx⟩ : ∃ x, x = limbs (val xs) := ⟨_, rfl⟩
  obtain ⟨y, hy⟩ : ∃ y, y = limbs (val ys) := ⟨_, rfl⟩
  have b1 : x.length ≤ 1099511627776 := by rw [hx]; omega
  have b2 : y.length ≤ 1099511627776 := by rw [hy]; omega
  rw [← hx] at T1 t1
  rw [← hy] at T2 t2
  have R1 := hid hr1
  have R2 := hid hr2
  have L1 := hid (show xs.length ≤ 1099511627776 by omega)
  have L2 := hid (show ys.length ≤ 1099511627776 by omega)
  have LX := hid (show x.length ≤ L by omega)
  have LY := hid (show y.length ≤ L by omega)
  have HX := hid hx
  have HY := hid hy
  have HT1 := hid T1
  have HT2 := hid T2
  have C1 := hid T1.cells
  have C2 := hid T2.cells
  have AX : Hid (AN w (.slice A1 x.length x.length) (val xs) L) := ⟨A1, _, x, rfl, T1, by rw [hx, val_limbs], by omega⟩
  have AY : Hid (AN w (.slice A2 y.length y.length) (val ys) L) := ⟨A2, _, y, rfl, T2, by rw [hy, val_limbs], by omega⟩
  have HLL := hid hL
  clear hr1 hr2 hl1 hl2 hL T1 T2 hx hy t1 t2
  have hyp : ((y.length : Int) == 0) = false := by
    rw [beq_eq_false_iff_ne]
    have : y.length ≠ 0 := fun h => by
      have := limbs_nil.1 (HY.out ▸ List.eq_nil_of_length_eq_zero h)
      omega
    omega
  have hc : cmpN (val xs) (val ys) = -1 := by unfold cmpN; rw [if_pos hmn]
  have HC := hid hc
  clear hc hmn
  go_enter Tryd.func39, Tryd.ntmps39
  go_wp2_with fail
  refine (trim_c _ _ _ _ R1.out (Nat.le_trans L1.out (by decide))).mono ?_
  rw [← HX.out]
  rintro e w' ⟨rfl, rfl⟩
  go_wp2_with fail
  refine (trim_c _ _ _ _ R2.out (Nat.le_trans L2.out (by decide))).mono ?_
  rw [← HY.out]
  rintro e w' ⟨rfl, rfl⟩
  go_wp2_with fail
  refine (cmp_c _ _ _ _ _ _ AX.out AY.out HLL.out).mono ?_
  rw [HC.out]
  rintro e w1 ⟨rfl, hg⟩
  have HG := hid hg
  clear hg
  go_wp2_with fail
  refine (norm_c _ _ _ _ (AX.out.gr HG.out) HLL.out).mono ?_
  rintro e w2 ⟨v, rfl, hv, hg2⟩
  have HV := hid (hv.base HG.out.size)
  have HG2 := hid hg2
  clear hv hg2
  go_wp2
  go_ret3
  exact ⟨_, _, rfl, ⟨VN.zero _ _ _ _ _, HV.out⟩, HG.out.trans HG2.out⟩

set_option maxHeartbeats 1000000 in
theorem divMod_c2 (w : World) (v1 v2 : Value) (m n L : Nat) (h1 : AN w v1 m L) (h2 : AN w v2 n L) (hL : L ≤ 1099511627776) (hmn : n ≤ m) (hn1 : (limbs n).length = 1) :
    Calls Tryd.prog 39 #[v1, v2] w (RetVB w true fun u v w' => VN w' w.heap.size u (m / n) L ∧ VN w' w.heap.size v (m % n) L) := by
  obtain ⟨A1, c1, xs, rfl, hr1, rfl, hl1⟩ := h1
  obtain ⟨A2, c2, ys, rfl, hr2, rfl, hl2⟩ := h2
  have T1 := hr1.trim
  have T2 := hr2.trim
  have t1 := limbs_val_le hr1.lim
  have t2 := limbs_val_le hr2.lim
  obtain ⟨x, hx⟩ : ∃ x, x = limbs (val xs) := ⟨_, rfl⟩
  obtain ⟨y, hy⟩ : ∃ y, y = limbs (val ys) := ⟨_, rfl⟩
  have b1 : x.length ≤ 1099511627776 := by rw [hx]; omega
  have b2 : y.length ≤ 1099511627776 := by rw [hy]; omega
  rw [← hx] at T1 t1
  rw [← hy] at T2 t2
  have R1 := hid hr1
  have R2 := hid hr2
  have L1 := hid (show xs.length ≤ 1099511627776 by omega)
  have L2 := hid (show ys.length ≤ 1099511627776 by omega)
  have LX := hid (show x.length ≤ L by omega)
  have LY := hid (show y.length ≤ L by omega)
  have HX := hid hx
  have HY := hid hy
  have HT1 := hid T1
  have HT2 := hid T2
  have C1 := hid T1.cells
  have C2 := hid T2.cells
  have AX : Hid (AN w (.slice A1 x.length x.length) (val xs) L) := ⟨A1, _, x, rfl, T1, by rw [hx, val_limbs], by omega⟩
  have AY : Hid (AN w (.slice A2 y.length y.length) (val ys) L) := ⟨A2, _, y, rfl, T2, by rw [hy, val_limbs], by omega⟩
  have HLL := hid hL
  clear hr1 hr2 hl1 hl2 hL T1 T2 hx hy t1 t2
  have hy1 : y.length = 1 := by rw [HY.out]; exact hn1
  have HY1 := hid hy1
  have hc : 0 ≤ cmpN (val xs) (val ys) := by unfold cmpN; rw [if_neg (by omega)]; split <;> omega
  obtain ⟨cv, hcv⟩ : ∃ cv, cv = cmpN (val xs) (val ys) := ⟨_, rfl⟩
  rw [← hcv] at hc
  have HCV := hid hcv
  have HMN := hid hmn
  obtain ⟨g2, o2, rfl, hcs⟩ := C2.out (by omega)
  have hp := HT2.out.lim.get 0
  have hpos : 0 < y.getD 0 0 := by
    have := limbs_top (n := val ys) (k := 0) hn1
    rw [← HY.out] at this
    omega
  obtain ⟨p, hpe⟩ : ∃ p, p = y.getD 0 0 := ⟨_, rfl⟩
  have HCY : Hid (w.cell? ⟨g2, o2, none⟩ = some (.int .u32 p)) := by rw [hpe]; exact hcs 0 (by omega)
  rw [← hpe] at hp hpos
  obtain ⟨hp0, hp1⟩ := hp
  have hval : val ys = p.toNat := by
    have h := val_two (xs := y) (by omega)
    rw [show val y = val ys by rw [HY.out, val_limbs], ← hpe] at h
    have h' : y.getD 1 0 = 0 := by rw [List.getD_eq_getElem?_getD, List.getElem?_eq_none (by omega)]; rfl
    rw [h'] at h
    simpa using h
  have HVAL := hid hval
  have HP := hid hpe
  have HLE : Hid (val xs % p.toNat ≤ val xs) := Nat.mod_le _ _
  clear hy1 hn1 hmn hcv hcs hval hpe b2
  go_enter Tryd.func39, Tryd.ntmps39
  go_wp2_with fail
  refine (trim_c _ _ _ _ R1.out (Nat.le_trans L1.out (by decide))).mono ?_
  rw [← HX.out]
  rintro e w' ⟨rfl, rfl⟩
  go_wp2_with fail
  refine (trim_c _ _ _ _ R2.out (Nat.le_trans L2.out (by decide))).mono ?_
  rw [← HY.out, HY1.out]
  rintro e w' ⟨rfl, rfl⟩
  go_wp2_with fail
  have hcmp := cmp_c _ _ _ _ _ _ AX.out AY.out HLL.out
  rw [HY1.out] at hcmp
  refine hcmp.mono ?_
  rw [← HCV.out]
  rintro e w1 ⟨rfl, hg⟩
  have HG := hid hg
  have hcy1 : w1.cell? ⟨g2, o2, none⟩ = some (.int .u32 p) := hg.cell HCY.out
  clear hg hcmp
  go_wp2_with fail
  refine (divSmall_c _ _ _ _ _ (AX.out.gr HG.out) HLL.out hpos hp1).mono ?_
  rintro e w2 ⟨u, v, rfl, ⟨hu, rfl⟩, hg2⟩
  have HU := hid hu
  have HG2 := hid hg2
  have HU2 : Hid (VN w2 w.heap.size u (val xs / p.toNat) L) := hu.base HG.out.size
  clear hu hg2
  have hr1 : (val xs % p.toNat : Nat) < p.toNat := Nat.mod_lt _ (by omega)
  obtain ⟨r, hr⟩ : ∃ r, r = val xs % p.toNat := ⟨_, rfl⟩
  rw [← hr] at hr1 ⊢
  have HR := hid hr
  clear hr
  go_wp2_with fail
  refine (of_c _ (r : Int) (by omega) (by omega)).mono ?_
  rintro e w3 ⟨v, rfl, hv, hg3⟩
  have HV := hid hv
  have HG3 := hid hg3
  clear hv hg3
  go_wp2
  go_ret3
  refine ⟨_, _, rfl, ⟨?_, ?_⟩, (HG.out.trans HG2.out).trans HG3.out⟩
  · rw [HVAL.out]; exact HU2.out.gr HG3.out
  · rw [HVAL.out, ← HR.out]
    have h := HV.out
    rw [Int.toNat_natCast] at h
    obtain ⟨A', c', h1, h2, h3, h4⟩ := h
    refine ⟨A', c', h1, h2, ?_, h4.base (Nat.le_trans HG.out.size HG2.out.size)⟩
    refine Nat.le_trans (limbs_mono (show r ≤ val xs by rw [HR.out]; exact HLE.out)) ?_
    rw [← HX.out]
    exact LX.out
end Go.Proofs.YtkbgdiejjabdmaaDoor
