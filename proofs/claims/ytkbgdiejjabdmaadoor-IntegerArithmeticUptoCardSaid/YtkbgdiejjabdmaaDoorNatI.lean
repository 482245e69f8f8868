/- The walk of nat.DivMod where the divisor has two limbs or more: the long division. -/
import Derived.Test.YtkbgdiejjabdmaaDoorNatH
import Derived.StillTailTactics
namespace Go.Proofs.YtkbgdiejjabdmaaDoor
open Go.RowKit

theorem Row.gr {w w' : World} {base g n c : Nat} {e : TypeId} {xs : List Int} (h : Row w base e (.slice (some ⟨g, 0, none⟩) n c) xs) (hg : Gr w w') : Row w' base e (.slice (some ⟨g, 0, none⟩) n c) xs := by
  obtain ⟨rfl, hb, cur, hh, h1, h2, h3, h4⟩ := h.form
  exact ⟨by simp, .inr ⟨g, c, cur, rfl, hb, hg.block hh, h1, h2, by omega, by rw [Nat.mul_one]; exact h4⟩⟩
theorem Row.below {w w' : World} {base g n c : Nat} {e : TypeId} {xs : List Int} (h : Row w base e (.slice (some ⟨g, 0, none⟩) n c) xs) (hg : Gr w w') : Row w' base e (.slice (some ⟨g, 0, none⟩) n c) xs := h.gr hg
theorem Row.lt {w : World} {base g n c : Nat} {e : TypeId} {xs : List Int} (h : Row w base e (.slice (some ⟨g, 0, none⟩) n c) xs) : g < w.heap.size := by
  obtain ⟨_, _, cur, hh, _⟩ := h.form
  exact (Array.getElem?_eq_some_iff.1 hh).1
theorem Row.rebase {w : World} {base b2 g n c : Nat} {e : TypeId} {xs : List Int} (h : Row w base e (.slice (some ⟨g, 0, none⟩) n c) xs) (hb : b2 ≤ base) : Row w b2 e (.slice (some ⟨g, 0, none⟩) n c) xs := by
  obtain ⟨rfl, h0, cur, hh, h1, h2, h3, h4⟩ := h.form
  exact ⟨by simp, .inr ⟨g, c, cur, rfl, by omega, hh, h1, h2, by omega, by rw [Nat.mul_one]; exact h4⟩⟩

/-- What holds of the divisor's shift. -/
theorem shift_top {y : List Int} {Y c : Nat} (hy : y = limbs Y) (hl : y.length = c + 2) {p : Int} (hp : p = y.getD (c + 1) 0) {s : Nat} (hs : s = 32 - Lib.bitLen p.toNat) : 0 < p ∧ s < 32 ∧ (32 : Int) - (Lib.bitLen p.toNat : Int) = (s : Int) ∧ 2147483648 ≤ p.toNat * 2 ^ s ∧ p.toNat * 2 ^ s < 4294967296 := by
  have h1 := limbs_top (n := Y) (k := c + 1) (by rw [← hy]; exact hl)
  rw [← hy, ← hp] at h1
  have h2 := (limbs_lim Y).get (c + 1)
  rw [← hy, ← hp] at h2
  obtain ⟨b1, b2, b3⟩ := Lib.bitLenAux_bounds 64 p.toNat (by omega) (by omega)
  have b4 : Lib.bitLen p.toNat ≤ 32 := Lib.bitLen_le p.toNat 32 (by omega) (by omega)
  change 1 ≤ Lib.bitLen p.toNat at b1
  change 2 ^ (Lib.bitLen p.toNat - 1) ≤ p.toNat at b2
  change p.toNat < 2 ^ Lib.bitLen p.toNat at b3
  refine ⟨by omega, by omega, by omega, ?_, ?_⟩
  · have h3 : 2 ^ (Lib.bitLen p.toNat - 1) * 2 ^ s ≤ p.toNat * 2 ^ s := Nat.mul_le_mul_right _ b2
    rw [← Nat.pow_add, show Lib.bitLen p.toNat - 1 + s = 31 by omega] at h3
    omega
  · have h3 : p.toNat * 2 ^ s < 2 ^ Lib.bitLen p.toNat * 2 ^ s := Nat.mul_lt_mul_of_pos_right b3 (Nat.two_pow_pos s)
    rw [← Nat.pow_add, show Lib.bitLen p.toNat + s = 32 by omega] at h3
    omega
/-- The divisor, shifted: its limbs, the highest one at least half of what a limb can be. -/
theorem shift_div {y V : List Int} {Y c s : Nat} (hy : y = limbs Y) (hl : y.length = c + 2) (hlo : 2147483648 ≤ (y.getD (c + 1) 0).toNat * 2 ^ s) (hhi : (y.getD (c + 1) 0).toNat * 2 ^ s < 4294967296) (hs : s < 32) (hV : Lim V) (hVl : V.length = c + 3) (hv : val V = Y * 2 ^ s) :
    val (V.take (c + 2)) = Y * 2 ^ s ∧ 2147483648 ≤ V.getD (c + 1) 0 := by
  have h1 := val_take_succ' y (c + 1)
  rw [← hl, List.take_length] at h1
  have hyv : val y = Y := by rw [hy, val_limbs]
  have h2 : val (y.take (c + 1)) < 4294967296 ^ (c + 1) := Nat.lt_of_lt_of_le (val_lt ((hy ▸ limbs_lim Y : Lim y).take (c + 1))) (Nat.pow_le_pow_right (by decide) (by rw [List.length_take]; omega))
  obtain ⟨p, hp⟩ : ∃ p, p = (y.getD (c + 1) 0).toNat := ⟨_, rfl⟩
  rw [← hp] at h1 hlo hhi
  obtain ⟨t, ht, _, t1, t2, u, htu, _⟩ := pow_s hs
  rw [ht] at hlo hhi hv ⊢
  obtain ⟨P, hP⟩ : ∃ P, P = 4294967296 ^ (c + 1) := ⟨_, rfl⟩
  rw [← hP] at h1 h2
  have hYv : Y = val (y.take (c + 1)) + P * p := by rw [← hyv]; exact h1
  -- p + 1 times the power still fits
  have hp1 : (p + 1) * t ≤ 4294967296 := by
    have e1 : p * t < u * t := by rw [Nat.mul_comm u, htu]; exact hhi
    have e2 : p < u := Nat.lt_of_mul_lt_mul_right e1
    have e3 : (p + 1) * t ≤ u * t := Nat.mul_le_mul_right _ e2
    rw [Nat.mul_comm u, htu] at e3
    exact e3
  have hYt : Y * t < P * 4294967296 := by
    have e1 : Y * t < (P * (p + 1)) * t := Nat.mul_lt_mul_of_pos_right (by rw [hYv, Nat.mul_add]; omega) (by omega)
    have e2 : P * ((p + 1) * t) ≤ P * 4294967296 := Nat.mul_le_mul_left _ hp1
    have e3 : (P * (p + 1)) * t = P * ((p + 1) * t) := by rw [Nat.mul_assoc]
    omega
  have hlow : P * 2147483648 ≤ Y * t := by
    have e1 : P * 2147483648 ≤ P * (p * t) := Nat.mul_le_mul_left _ hlo
    have e2 : P * (p * t) ≤ Y * t := by rw [hYv, Nat.add_mul, Nat.mul_assoc]; omega
    omega
  have hfar : ∀ i, c + 2 ≤ i → V.getD i 0 = 0 := far_zero hV (by rw [hv, Nat.pow_succ, ← hP]; exact hYt)
  have htake : val (V.take (c + 2)) = Y * t := by rw [← val_of_far (by omega) hfar, hv]
  refine ⟨htake, ?_⟩
  have h5 := val_take_succ' V (c + 1)
  rw [htake, ← hP] at h5
  have h6 : val (V.take (c + 1)) < P := by rw [hP]; exact Nat.lt_of_lt_of_le (val_lt (hV.take (c + 1))) (Nat.pow_le_pow_right (by decide) (by rw [List.length_take]; omega))
  have h7 := hV.get (c + 1)
  rcases Int.lt_or_le (V.getD (c + 1) 0) 2147483648 with h8 | h8
  · exfalso
    have e1 : P * ((V.getD (c + 1) 0).toNat + 1) ≤ P * 2147483648 := Nat.mul_le_mul_left _ (by omega)
    rw [Nat.mul_add] at e1
    omega
  · exact h8

def DmIn (T VV : Nat) (w wr : World) (base gu gv gq N M c : Nat) (yv : List Int) (e : TypeId) (k : Nat) : Prop :=
  ∃ D Q, DmS T VV k N M D Q ∧ Row wr base e (.slice (some ⟨gu, 0, none⟩) N N) D ∧ Row wr base e (.slice (some ⟨gq, 0, none⟩) M M) Q ∧ RdN wr (some ⟨gv, 0, none⟩) (c + 3) yv ∧ Below base w wr

set_option maxHeartbeats 4000000 in
set_option maxRecDepth 100000 in
theorem divMod_c3 (w : World) (v1 v2 : Value) (m n L : Nat) (h1 : AN w v1 m L) (h2 : AN w v2 n L) (hL : L ≤ 1099511627776) (hmn : n ≤ m) (hn1 : 2 ≤ (limbs n).length) :
    Calls Tryd.prog 39 #[v1, v2] w (RetVB w true fun u v w' => VN w' w.heap.size u (m / n) L ∧ VN w' w.heap.size v (m % n) L) := by
  obtain ⟨A1, c1, xs, rfl, hr1, rfl, hl1⟩ := h1
  obtain ⟨A2, c2, ys, rfl, hr2, rfl, hl2⟩ := h2
  have T1 := hr1.trim
  have T2 := hr2.trim
  have t1 := limbs_val_le hr1.lim
  have t2 := limbs_val_le hr2.lim
  obtain ⟨x, hx⟩ : ∃ x, x = limbs (val xs) := ⟨_, rfl⟩
  obtain ⟨y, hy⟩ : ∃ y, y = limbs (val ys) := ⟨_, rfl⟩
  have b1 : x.length ≤ 1099511627776 := by rw [hx]; omega
  have b2 : y.length ≤ 1099511627776 := by rw [hy]; omega
  rw [← hx] at T1 t1
  rw [← hy] at T2 t2
  have R1 := hid hr1
  have R2 := hid hr2
  have L1 := hid (show xs.length ≤ 1099511627776 by omega)
  have L2 := hid (show ys.length ≤ 1099511627776 by omega)
  have LX := hid (show x.length ≤ L by omega)
  have LY := hid (show y.length ≤ L by omega)
  have HX := hid hx
  have HY := hid hy
  have HT1 := hid T1
  have HT2 := hid T2
  have C1 := hid T1.cells
  have C2 := hid T2.cells
  have AX : Hid (AN w (.slice A1 x.length x.length) (val xs) L) := ⟨A1, _, x, rfl, T1, by rw [hx, val_limbs], by omega⟩
  have AY : Hid (AN w (.slice A2 y.length y.length) (val ys) L) := ⟨A2, _, y, rfl, T2, by rw [hy, val_limbs], by omega⟩
  have HLL := hid hL
  clear hr1 hr2 hl1 hl2 hL T1 T2 hx hy t1 t2
  obtain ⟨c, hyc⟩ : ∃ c, y.length = c + 2 := ⟨y.length - 2, by rw [HY.out]; omega⟩
  have hxy : y.length ≤ x.length := by rw [HX.out, HY.out]; exact limbs_mono hmn
  have hc : 0 ≤ cmpN (val xs) (val ys) := by unfold cmpN; rw [if_neg (by omega)]; split <;> omega
  obtain ⟨cv, hcv⟩ : ∃ cv, cv = cmpN (val xs) (val ys) := ⟨_, rfl⟩
  rw [← hcv] at hc
  have HCV := hid hcv
  obtain ⟨g2, o2, rfl, hcs⟩ := C2.out (by omega)
  obtain ⟨p, hpe⟩ : ∃ p, p = y.getD (c + 1) 0 := ⟨_, rfl⟩
  obtain ⟨s, hse⟩ : ∃ s, s = 32 - Lib.bitLen p.toNat := ⟨_, rfl⟩
  obtain ⟨hp0, hs32, hs1, hs2, hs3⟩ := shift_top HY.out hyc hpe hse
  have hp1 : p ≤ 4294967295 := by rw [hpe]; exact (HT2.out.lim.get (c + 1)).2
  have HCY : Hid (w.cell? ⟨g2, o2 + (c + 1), none⟩ = some (.int .u32 p)) := by rw [hpe]; exact hcs (c + 1) (by omega)
  have HFIT := hid (shift_fits HX.out HY.out hyc hs32 hxy)
  have HSD := hid (fun (V : List Int) => shift_div (V := V) HY.out hyc (by rw [← hpe]; exact hs2) (by rw [← hpe]; exact hs3) hs32)
  have HS1 := hid hs1
  have HYC := hid hyc
  have HS2 := hid hs2
  rw [hyc] at b2 hxy
  obtain ⟨lx, hlx⟩ : ∃ lx, lx = x.length := ⟨_, rfl⟩
  rw [← hlx] at b1 hxy
  have HLX := hid hlx
  have HMN := hid hmn
  clear hyc hcv hcs hpe hse hs1 hs2 hs3 hn1 hmn hlx
  go_enter Tryd.func39, Tryd.ntmps39
  go_wp2_with fail
  refine (trim_c _ _ _ _ R1.out (Nat.le_trans L1.out (by decide))).mono ?_
  rw [← HX.out, ← HLX.out]
  rintro e w' ⟨rfl, rfl⟩
  go_wp2_with fail
  refine (trim_c _ _ _ _ R2.out (Nat.le_trans L2.out (by decide))).mono ?_
  rw [← HY.out, HYC.out]
  rintro e w' ⟨rfl, rfl⟩
  go_wp2_with fail
  have hcmp := cmp_c _ _ _ _ _ _ AX.out AY.out HLL.out
  rw [HYC.out, ← HLX.out] at hcmp
  refine hcmp.mono ?_
  rw [← HCV.out]
  rintro e w1 ⟨rfl, hg⟩
  have HG := hid hg
  have hcy1 : w1.cell? ⟨g2, o2 + (c + 1), none⟩ = some (.int .u32 p) := hg.cell HCY.out
  clear hg hcmp
  have hne1 : ((c : Int) + 2 == 0) = false := by rw [beq_eq_false_iff_ne]; omega
  have hne2 : ((c : Int) + 2 == 1) = false := by rw [beq_eq_false_iff_ne]; omega
  go_wp2_with fail
  have hlz := Tryd.bits_LeadingZeros32 p w1 (by omega) hp1
  rw [HS1.out] at hlz
  refine hlz.mono ?_
  rintro e w' ⟨rfl, rfl⟩
  clear hlz
  go_wp2_with fail
  have hsu := shiftUp_c w' s A1 lx x (by rw [HLX.out]; exact HT1.out.gr HG.out) (by rw [← HLX.out]; omega) hs32
  rw [← HLX.out] at hsu
  refine hsu.mono ?_
  rintro e w2 ⟨_, rfl, ⟨gu, D0, rfl, hrowu, hlimu, hlenu, hvalu⟩, hg2⟩
  have HG2 := hid hg2
  have HROWU := hid hrowu
  have HLIMU := hid hlimu
  have HLENU := hid hlenu
  have HVALU := hid hvalu
  clear hrowu hlimu hlenu hvalu hg2 hsu
  go_wp2_with fail
  have hsv := shiftUp_c w2 s (some ⟨g2, o2, none⟩) (c + 2) y (by rw [← HYC.out]; exact HT2.out.gr (HG.out.trans HG2.out)) (by rw [HYC.out]; omega) hs32
  rw [HYC.out] at hsv
  refine hsv.mono ?_
  rintro e w3 ⟨_, rfl, ⟨gv, V0, rfl, hrowv, hlimv, hlenv, hvalv⟩, hg3⟩
  have HG3 := hid hg3
  have HROWV := hid hrowv
  have HLIMV := hid hlimv
  have HLENV := hid hlenv
  have HVALV := hid hvalv
  clear hrowv hlimv hlenv hvalv hg3 hsv
  have hsz1 := HG.out.size
  have hsz2 := HG2.out.size
  have hsz3 := HG3.out.size
  have hguv := HROWU.out.lt
  have hgv0 := HROWV.out.form.2.1
  have hgu0 := HROWU.out.form.2.1
  have hgvlt := HROWV.out.lt
  go_wp2_with (at_make; refine make_full (w0 := w) rfl (.tmp 70) (.tmp 70) 24 78 w.heap.size rfl Tryd.underlying24 Tryd.info_u32 .i64 .i64 _ _ (lx - (c + 1)) rfl rfl (by omega) (by omega) (by omega) (by omega) ((HG.out.trans HG2.out).trans HG3.out) ?_)
  intro w4 hrow hbel hsz4 hg4
  have HROWQ := hid hrow
  have HB4 := hid hbel
  have HG4 := hid hg4
  clear hrow hbel hg4
  obtain ⟨hyv, hyv31⟩ := HSD.out V0 HLIMV.out HLENV.out (by rw [HVALV.out, HY.out, val_limbs])
  have HYVV := hid hyv
  have HYV31 := hid hyv31
  obtain ⟨yv, hyve⟩ : ∃ yv, yv = V0.take (c + 2) := ⟨_, rfl⟩
  have hyvlen : yv.length = c + 2 := by rw [hyve, List.length_take, HLENV.out]; omega
  have hyvlim : Lim yv := by rw [hyve]; exact HLIMV.out.take _
  have hyvtop : 2147483648 ≤ yv.getD (c + 1) 0 := by
    rw [hyve, List.getD_eq_getElem?_getD, List.getElem?_take, if_pos (by omega), ← List.getD_eq_getElem?_getD]; exact hyv31
  have hyvval : val yv = val ys * 2 ^ s := by rw [hyve]; exact hyv
  have HRV : Hid (RdN w4 (some ⟨gv, 0, none⟩) (c + 3) yv) := by
    have h := ((HROWV.out.rd HLIMV.out).2.gr HG4.out).take (c + 2) (by rw [HLENV.out]; omega)
    rw [← hyve] at h
    exact ⟨by rw [hyvlen]; omega, h.lim, h.cells⟩
  have HYLEN := hid hyvlen
  have HYLIM := hid hyvlim
  have HYTOP := hid hyvtop
  have HYVAL := hid hyvval
  obtain ⟨M, hM⟩ : ∃ M, M = lx - (c + 1) := ⟨_, rfl⟩
  have hMl : lx = M + (c + 1) := by omega
  have HML := hid hMl
  rw [← hM]
  have HRQ : Hid (Row w4 w.heap.size 78 (.slice (some ⟨w3.heap.size, 0, none⟩) M M) (List.replicate M 0)) := by rw [hM]; exact HROWQ.out
  have HRU : Hid (Row w4 w.heap.size 78 (.slice (some ⟨gu, 0, none⟩) (lx + 1) (lx + 1)) D0) := (HROWU.out.gr (HG3.out.trans HG4.out)).rebase (by omega)
  have HST0 : Hid (DmS (val xs * 2 ^ s) (val ys * 2 ^ s) M (lx + 1) M D0 (List.replicate M 0)) := DmS.start HLENU.out HLIMU.out (by rw [HVALU.out, HX.out, val_limbs]) (by
    have h := HFIT.out
    rw [← HLX.out, ← hM] at h
    exact h)
  obtain ⟨gq, hgq⟩ : ∃ gq, gq = w3.heap.size := ⟨_, rfl⟩
  rw [← hgq] at HRQ ⊢
  have hq1 : gu ≠ gq := by omega
  have hq2 : gv ≠ gq := by omega
  have hq3 : gv ≠ gu := by omega
  have hgub : w.heap.size ≤ gu := by omega
  have hgqb : w.heap.size ≤ gq := by omega
  have hyv0 := hyvlim.get c
  have hyv1 := hyvlim.get (c + 1)
  have HV0 := hid hyv0
  have HV1 := hid hyv1
  have HP31 := hid (show 0 < val ys * 2 ^ s from by
    have h := val_two' hyvlim hyvlen
    obtain ⟨vr, _, h⟩ := h
    rw [← hyvval, h]
    have : 0 < 4294967296 ^ c := Nat.pow_pos (by decide)
    have e1 : 1 * 4294967296 ^ c ≤ ((yv.getD (c + 1) 0).toNat * 4294967296 + (yv.getD c 0).toNat) * 4294967296 ^ c := Nat.mul_le_mul_right _ (by omega)
    omega)
  clear hyv hyv31 hyve hyvlen hyvlim hyvtop hyvval hM hMl HROWQ hgq hyv0 hyv1 hsz1 hsz2 hsz3 hguv hgv0 hgu0 hgvlt hsz4
  go_wp2
  go_loopw [16] (fun jv wr => ∃ k : Nat, k ≤ M ∧ jv = .int .i64 ((k : Int) - 1) ∧ Hid (DmIn (val xs * 2 ^ s) (val ys * 2 ^ s) w wr w.heap.size gu gv gq (lx + 1) M c yv 78 k)) (fun jv _ => (intOf jv + 1).toNat)
  case atStart => exact ⟨M, Nat.le_refl _, by have := HML.out; go_num, _, _, HST0.out, HRU.out, HRQ.out, HRV.out, HB4.out⟩
  case round =>
    obtain ⟨k, hk, rfl, HI⟩ := hrel
    obtain ⟨D, Q, hst, hrowu, hrowq, hrv, hbel⟩ := HI.out
    have HST := hid hst
    have HROWU2 := hid hrowu
    have HROWQ2 := hid hrowq
    have HRV2 := hid hrv
    have HBEL := hid hbel
    clear hst hrowu hrowq hrv hbel HI
    by_cases hk0 : 0 < k
    · obtain ⟨j, rfl⟩ : ∃ j, k = j + 1 := ⟨k - 1, by omega⟩
      have hjl : j + (c + 2) < lx + 1 := by have := HML.out; omega
      obtain ⟨hu2, hu2f⟩ := HROWU2.out.cell (j + (c + 2)) hjl
      obtain ⟨hu1, hu1f⟩ := HROWU2.out.cell (j + (c + 1)) (by omega)
      obtain ⟨hu0, hu0f⟩ := HROWU2.out.cell (j + c) (by omega)
      obtain ⟨gv', ov', hve, hvc⟩ := HRV2.out.cells (by rw [HYLEN.out]; omega)
      injection hve with hve
      injection hve with hve1 hve2
      subst hve1; subst hve2
      have hv1 := hvc (c + 1) (by rw [HYLEN.out]; omega)
      have hv0 := hvc c (by rw [HYLEN.out]; omega)
      rw [Nat.zero_add] at hv1 hv0
      have hl2 := HST.out.dlim.get (j + (c + 2))
      have hl1 := HST.out.dlim.get (j + (c + 1))
      have hl0 := HST.out.dlim.get (j + c)
      have hl3 := HV1.out
      have hl4 := HV0.out
      have hl5 := HYTOP.out
      have HPART := hid (HST.out.part (by omega))
      obtain ⟨e2, he2⟩ : ∃ e2, e2 = D.getD (j + (c + 2)) 0 := ⟨_, rfl⟩
      obtain ⟨e1, he1⟩ : ∃ e1, e1 = D.getD (j + (c + 1)) 0 := ⟨_, rfl⟩
      obtain ⟨e0, he0⟩ : ∃ e0, e0 = D.getD (j + c) 0 := ⟨_, rfl⟩
      obtain ⟨f1, hf1⟩ : ∃ f1, f1 = yv.getD (c + 1) 0 := ⟨_, rfl⟩
      obtain ⟨f0, hf0⟩ : ∃ f0, f0 = yv.getD c 0 := ⟨_, rfl⟩
      rw [← he2] at hu2 hl2
      rw [← he1] at hu1 hl1
      rw [← he0] at hu0 hl0
      rw [← hf1] at hv1 hl3 hl5
      rw [← hf0] at hv0 hl4
      have HE2 := hid he2
      have HE1 := hid he1
      have HE0 := hid he0
      have HF1 := hid hf1
      have HF0 := hid hf0
      have HL2 := hid hl2
      have HL1 := hid hl1
      have HL0 := hid hl0
      have HL3 := hid hl3
      have HL4 := hid hl4
      have HL5 := hid hl5
      have HPT := hid (part_top HST.out.dlim HYLIM.out HYLEN.out HPART.out HYVAL.out hjl)
      have HTOP : Hid (e2 ≤ f1) := by
        have := HPT.out.1
        rw [← HE2.out, ← HF1.out] at this
        exact this
      clear he2 he1 he0 hf1 hf0 hl2 hl1 hl0 hl3 hl4 hl5
      rw [show ((j + 1 : Nat) : Int) - 1 = (j : Int) by omega]
      have q0 : (0 : Int) ≤ (j : Int) + ((c : Int) + 2) := by omega
      have q1 : (j : Int) + ((c : Int) + 2) < (lx : Int) + 1 := by omega
      have q2 : ((j : Int) + ((c : Int) + 2)).toNat = j + (c + 2) := by omega
      have r0 : (0 : Int) ≤ (j : Int) + ((c : Int) + 2) - 1 := by omega
      have r1 : (j : Int) + ((c : Int) + 2) - 1 < (lx : Int) + 1 := by omega
      have r2 : ((j : Int) + ((c : Int) + 2) - 1).toNat = j + (c + 1) := by omega
      have s0 : (0 : Int) ≤ (j : Int) + ((c : Int) + 2) - 2 := by omega
      have s1 : (j : Int) + ((c : Int) + 2) - 2 < (lx : Int) + 1 := by omega
      have s2 : ((j : Int) + ((c : Int) + 2) - 2).toNat = j + c := by omega
      have t0 : (0 : Int) ≤ (c : Int) + 2 - 1 := by omega
      have t1 : (c : Int) + 2 - 1 < (c : Int) + 2 := by omega
      have t2 : ((c : Int) + 2 - 1).toNat = c + 1 := by omega
      have p0 : (0 : Int) ≤ (c : Int) + 2 - 2 := by omega
      have p1 : (c : Int) + 2 - 2 < (c : Int) + 2 := by omega
      have p2 : ((c : Int) + 2 - 2).toNat = c := by omega
      have q4 : (1 : Int) ≤ (j : Int) + ((c : Int) + 2) := by omega
      have q5 : (2 : Int) ≤ (j : Int) + ((c : Int) + 2) := by omega
      have q6 : (1 : Int) ≤ (c : Int) + 2 := by omega
      have q7 : (2 : Int) ≤ (c : Int) + 2 := by omega
      have p5 : (c : Int) < (c : Int) + 2 := by omega
      have p6 : (0 : Int) ≤ (c : Int) := by omega
      have p4 : IntKind.i64.wrap (c : Int) = (c : Int) := IntWalk.i64_in _ (by omega)
      have q3 : IntKind.i64.wrap ((j : Int) + ((c : Int) + 2)) = (j : Int) + ((c : Int) + 2) := IntWalk.i64_in _ (by omega)
      have r3 : IntKind.i64.wrap ((j : Int) + ((c : Int) + 2) - 1) = (j : Int) + ((c : Int) + 2) - 1 := IntWalk.i64_in _ (by omega)
      have s3 : IntKind.i64.wrap ((j : Int) + ((c : Int) + 2) - 2) = (j : Int) + ((c : Int) + 2) - 2 := IntWalk.i64_in _ (by omega)
      have t3 : IntKind.i64.wrap ((c : Int) + 2 - 1) = (c : Int) + 2 - 1 := IntWalk.i64_in _ (by omega)
      have p3 : IntKind.i64.wrap ((c : Int) + 2 - 2) = (c : Int) + 2 - 2 := IntWalk.i64_in _ (by omega)
      clear hu2f hu1f hu0f hvc
      go_wp2
      go_still_tail 30, (by kernel_rfl)
      clear q0 q1 q2 q3 q4 q5 q6 q7 r0 r1 r2 r3 s0 s1 s2 s3 t0 t1 t2 t3 p0 p1 p2 p3 p4 p5 p6
      change wpList _ _ _ _ _ wr.drew
      generalize hwd : wr.drew = wd
      have HWD := hid hwd
      clear hwd
      go_wp2_with fail
      refine (guess_c wd e2 e1 e0 f1 f0 HL2.out.1 HTOP.out HL1.out.1 HL1.out.2 HL0.out.1 HL0.out.2 HL5.out HL3.out.2 HL4.out.1 HL4.out.2).mono ?_
      rintro e w5 ⟨_, rfl, ⟨dg, rfl, hge⟩, hg5⟩
      have HGE := hid hge
      have HG5 := hid hg5
      have hdg0 := hge.lo
      have hdg1 := hge.hi
      clear hge hg5
      have hj3 : j + (c + 2) + 1 ≤ lx + 1 := by omega
      have HGW : Hid (Gr wr w5) := by rw [← HWD.out] at HG5; exact Gr.trans ((Gr.refl wr).drew) HG5.out
      have HRU5 := hid (HROWU2.out.gr HGW.out)
      have HRQ5 := hid (HROWQ2.out.gr HGW.out)
      have HRV5 := hid (HRV2.out.gr HGW.out)
      have HB5 : Hid (Below w.heap.size w w5) := Below.trans HBEL.out (Below.mono HGW.out HBEL.out.size)
      have hsub := subtract_c w5 w.heap.size gu (lx + 1) j (lx + 1 - j) gv (c + 2 + 1) D yv dg HRU5.out HST.out.dlim (by omega) (by rw [HYLEN.out]; exact hjl) HRV5.out hq3 hdg0 hdg1
      rw [HYLEN.out] at hsub
      have HUSE : Hid (val (D.drop j) / val yv ≤ dg.toNat ∧ dg.toNat * val yv < val (D.drop j) + val yv) := by
        obtain ⟨_, _, ⟨ur, hur, hu⟩, ⟨vr, hvr, hv⟩⟩ := HPT.out
        rw [← HE2.out, ← HE1.out, ← HE0.out] at hu
        rw [← HF1.out, ← HF0.out] at hv
        have h1 := HL2.out
        have h2 := HL1.out
        have h3 := HL0.out
        have h4 := HL5.out
        have h5 := HL4.out
        have e : (e2 * 4294967296 + e1).toNat = e2.toNat * 4294967296 + e1.toNat := by omega
        refine GuE.use HGE.out (by omega) h5.1 h3.1 hv (by rw [e]; exact hu) hvr hur ?_
        rw [HYVAL.out]
        exact HPART.out
      have HVP : Hid (0 < val yv) := by rw [HYVAL.out]; exact HP31.out
      clear hu2 hu1 hu0 hv1 hv0
      go_wp2_with fail
      rw [show j + (c + 2) + 1 - j = c + 2 + 1 by omega]
      refine hsub.mono ?_
      rintro e w6 ⟨D1, neg, rfl, hsb, hrow6, hex6⟩
      have HSB := hid hsb
      have HRU6 := hid hrow6
      have HEX6 := hid hex6
      have HRQ6 := hid (HRQ5.out.ex hex6 (Ne.symm hq1))
      have HRV6 := hid (HRV5.out.ex hex6 hq3)
      have HB6 : Hid (Below w.heap.size w w6) := Below.trans HB5.out (hex6.below hgub)
      clear hsb hrow6 hex6 hsub
      cases neg with
      | false =>
        have hright := sb_right HSB.out HUSE.out.1 HVP.out
        rw [HYVAL.out] at hright
        have HN := hid (HST.out.next (D' := D1) (q := dg) (by omega) (by omega) (by rw [HSB.out.len]; exact HST.out.dl) HSB.out.lim HSB.out.take hdg0 hdg1 hright.1 hright.2)
        obtain ⟨hqc, hqf⟩ := HRQ6.out.cell j (by omega)
        clear hright
        go_wp2
        refine ⟨⟨j, by omega, by go_num, _, _, HN.out, ?_, HRQ6.out.set j _, ?_, HB6.out.setCell hgqb _⟩, by simp [intOf]⟩
        · exact HRU6.out.ex ((Ex.refl gq w6).setCell j _) hq1
        · exact HRV6.out.ex ((Ex.refl gq w6).setCell j _) hq2
      | true =>
        have hab := addBack_c w6 w.heap.size gu (lx + 1) j (lx + 1 - j) gv (c + 2 + 1) D1 yv HRU6.out HSB.out.lim (by omega) (by rw [HYLEN.out]; exact hjl) HRV6.out hq3
        rw [HYLEN.out] at hab
        go_wp2_with fail
        rw [show j + (c + 2) + 1 - j = c + 2 + 1 by omega]
        refine hab.mono ?_
        rintro e w7 ⟨D2, rfl, hab7, hrow7, hex7⟩
        have hback := sb_back HYLEN.out HSB.out hab7 HYLIM.out HPT.out.2.1 HUSE.out.2
        rw [HYVAL.out] at hback
        have hd1 : 1 ≤ dg := by have := hback.1; omega
        have HN := hid (HST.out.next (D' := D2) (q := dg - 1) (by omega) (by omega) (by rw [hab7.len, HSB.out.len]; exact HST.out.dl) hab7.lim (by rw [hab7.take, HSB.out.take]) (by omega) (by omega) (by rw [show (dg - 1).toNat = dg.toNat - 1 by omega]; exact hback.2.1) hback.2.2)
        have HRU7 := hid hrow7
        have HRQ7 := hid (HRQ6.out.ex hex7 (Ne.symm hq1))
        have HRV7 := hid (HRV6.out.ex hex7 hq3)
        have HB7 : Hid (Below w.heap.size w w7) := Below.trans HB6.out (hex7.below hgub)
        obtain ⟨hqc, hqf⟩ := HRQ7.out.cell j (by omega)
        clear hback hab7 hrow7 hex7 hab
        go_wp2
        refine ⟨⟨j, by omega, by go_num, _, _, HN.out, ?_, HRQ7.out.set j _, ?_, HB7.out.setCell hgqb _⟩, by simp [intOf]⟩
        · exact HRU7.out.ex ((Ex.refl gq w7).setCell j _) hq1
        · exact HRV7.out.ex ((Ex.refl gq w7).setCell j _) hq2
    · obtain rfl : k = 0 := by omega
      have HDONE := hid HST.out.done
      have hux : ∃ D', D' = D.take (c + 2) := ⟨_, rfl⟩
      obtain ⟨D', hD'⟩ := hux
      have hD'l : D'.length = c + 2 := by rw [hD', List.length_take, HST.out.dl]; omega
      have hD'v : val D' = val D := by
        rw [hD']
        refine (val_of_far (by rw [HST.out.dl]; omega) (far_zero HST.out.dlim ?_)).symm
        have h := HST.out.lt
        simp only [Nat.pow_zero, Nat.mul_one] at h
        have h2 := val_lt HYLIM.out
        rw [HYLEN.out, HYVAL.out] at h2
        exact Nat.lt_trans h h2
      have HRD : Hid (RdN wr (some ⟨gu, 0, none⟩) (lx + 1) D') := by
        obtain ⟨_, hr⟩ := HROWU2.out.rd HST.out.dlim
        have h := hr.take (c + 2) (by rw [HST.out.dl]; omega)
        rw [← hD'] at h
        exact ⟨by rw [hD'l]; omega, h.lim, h.cells⟩
      have HTR := hid (fun (W : World) (h : Gr wr W) => trim_row W (HROWQ2.out.gr h) HST.out.qlim HDONE.out.1 (by have := HML.out; omega))
      have HVQ := hid (VN.of_trim HROWQ2.out HST.out.qlim HDONE.out.1 (L := L) (by have := HML.out; have := LX.out; have := HLX.out; omega))
      have HSDN : Hid (∀ W, Gr wr W → Calls Tryd.prog 104 #[.slice (some ⟨gu, 0, none⟩) (c + 2) (lx + 1), .int .u64 s] W (Ret W fun v w' => VN w' W.heap.size v (val xs % val ys) (c + 2))) := by
        intro W hW
        have h := shiftDown_c W s (some ⟨gu, 0, none⟩) (lx + 1) D' (HRD.out.gr hW) (by omega) hs32
        rw [hD'l, hD'v, HDONE.out.2] at h
        exact h
      clear hD' hD'l hD'v
      have q0 : (0 : Int) ≤ (c : Int) + 2 := by omega
      have q1 : (c : Int) + 2 ≤ (lx : Int) + 1 := by omega
      have q2 : ((c : Int) + 2).toNat = c + 2 := by omega
      go_wp2
      go_region_held3 (fun _ => True) (trivial) (first
        | (go_at_call 95; refine (HTR.out _ ((Gr.refl wr).drew)).mono ?_; rintro e w' ⟨rfl, rfl⟩)
        | (go_at_call 104; refine (HSDN.out _ ((Gr.refl wr).drew)).mono ?_; rintro e w9 ⟨vr, rfl, hvr, hg9⟩; have HVR := hid hvr; have HG9 := hid hg9; clear hvr hg9))
      go_wp2
      go_ret3
      have hgr : Gr w w9 := HBEL.out.trans (((Gr.refl wr).drew.trans HG9.out).mono HBEL.out.size)
      refine ⟨_, _, rfl, ⟨(HVQ.out.gr ((Gr.refl wr).drew)).gr HG9.out, (HVR.out.le ?_).base HBEL.out.size⟩, hgr⟩
      have := LY.out
      have := HYC.out
      omega
end Go.Proofs.YtkbgdiejjabdmaaDoor
