/- The walk of the reference's DivMod, as numbers. -/
import Derived.Test.YtkbgdiejjabdmaaDoorRfD
namespace Go.Proofs.YtkbgdiejjabdmaaDoor
open Go.RowKit

theorem VN.small {w : World} {b : Nat} {v : Value} {n L K : Nat} (h : VN w b v n L) (hk : (limbs n).length ≤ K) : VN w b v n K := by
  obtain ⟨A, c, h1, h2, _, h4⟩ := h
  exact ⟨A, c, h1, h2, hk, h4⟩
theorem Row.grow {w w' : World} {base : Nat} {e : TypeId} {v : Value} {xs : List Int} (h : Row w base e v xs) (hg : Gr w w') : Row w' base e v xs := by
  refine ⟨h.1, ?_⟩
  rcases h.2 with h2 | ⟨g, cap, cur, hv, hb, hh, hr⟩
  · exact .inl h2
  · exact .inr ⟨g, cap, cur, hv, hb, hg.block hh, hr⟩
theorem VN.len {w : World} {b : Nat} {v : Value} {n L : Nat} (h : VN w b v n L) : (limbs n).length ≤ L := by
  obtain ⟨A, c, _, _, h3, _⟩ := h
  exact h3
/-- The value's cells do not lie in block g. -/
def Apart (g : Nat) (v : Value) : Prop := ∀ p l c, v = .slice (some p) l c → 0 < l → p.block ≠ g
theorem VN.apart {w : World} {b g : Nat} {v : Value} {n L : Nat} (h : VN w b v n L) (hg : g < b) : Apart g v := by
  obtain ⟨A, c, rfl, h2, h3, h4⟩ := h
  intro p l c' he hl
  injection he with e1 e2 e3
  subst e2
  obtain ⟨k, o, hk, hb, _⟩ := h4 hl
  rw [hk] at e1
  injection e1 with e1
  subst e1
  show k ≠ g
  omega
theorem VN.apart' {w : World} {b g : Nat} {v : Value} {n L : Nat} (h : VN w b v n L) (hg : w.heap.size ≤ g) : Apart g v := by
  obtain ⟨A, c, rfl, h2, h3, h4⟩ := h
  intro p l c' he hl
  injection he with e1 e2 e3
  subst e2
  obtain ⟨k, o, hk, _, hb, _⟩ := h4 hl
  rw [hk] at e1
  injection e1 with e1
  subst e1
  show k ≠ g
  omega
theorem VN.set' {w : World} {b g i : Nat} {v x : Value} {n L : Nat} (h : VN w b v n L) (ha : Apart g v) : VN (w.setCell ⟨g, i, none⟩ x) b v n L := by
  obtain ⟨A, c, rfl, h2, h3, h4⟩ := h
  have hx : Ex g w (w.setCell ⟨g, i, none⟩ x) := (Ex.refl g w).setCell i x
  refine ⟨A, c, rfl, ⟨h2.cap, h2.lim, fun hp => ?_⟩, h3, fun hp => ?_⟩
  · obtain ⟨k, o, hk, hc⟩ := h2.cells hp
    subst hk
    have hne : k ≠ g := ha _ _ _ rfl hp
    exact ⟨k, o, rfl, fun j hj => (hx.cell (p := ⟨k, o + j, none⟩) hne).trans (hc j hj)⟩
  · obtain ⟨k, o, hk, h5, h6, h7⟩ := h4 hp
    subst hk
    have hne : k ≠ g := ha _ _ _ rfl hp
    refine ⟨k, o, rfl, h5, by rw [hx.size]; exact h6, fun j hj => ?_⟩
    rw [← h7 j hj]
    simp only [World.frozen?]
    rw [hx.block k hne]
theorem bits_le {n L : Nat} (h : (limbs n).length ≤ L) : bitsN n ≤ 32 * L := by
  by_cases h0 : n = 0
  · subst h0; simp [bitsN]
  · have h1 := bitsN_lo h0
    have h2 := val_lt_pow (limbs_lim n) h
    rw [val_limbs, pow32] at h2
    have h3 : 2 ^ (bitsN n - 1) < 2 ^ (32 * L) := by omega
    have h4 := (Nat.pow_lt_pow_iff_right (by decide : 1 < 2)).1 h3
    omega
theorem bits_mono {m n : Nat} (h : bitsN m < bitsN n) : m < n := by
  have h0 : n ≠ 0 := by rintro rfl; simp [bitsN] at h
  have h1 := bitsN_lo h0
  have h2 := bitsN_hi m
  have h3 : 2 ^ bitsN m ≤ 2 ^ (bitsN n - 1) := Nat.pow_le_pow_right (by decide) (by omega)
  omega
theorem or_bit {X : Int} {s : Nat} (hs : s < 32) (h0 : 0 ≤ X) (h1 : X ≤ 4294967295) (hm : X.toNat % 2 ^ (s + 1) = 0) : bits .or .u32 X (2 ^ s) = X + 2 ^ s ∧ (0 : Int) ≤ 2 ^ s ∧ (2 : Int) ^ s ≤ 2147483648 := by
  obtain ⟨p, hp, hpi, p1, p2, _⟩ := pow_s hs
  rw [hpi]
  refine ⟨?_, by omega, by omega⟩
  rw [u32_or X _ h0 (by omega) (by omega) (by omega), nat_join (s + 1) X.toNat _ hm (by rw [Nat.pow_succ, hp]; omega)]
  omega

set_option maxHeartbeats 1000000 in
theorem xdivmod_c0 (w : World) (v1 v2 : Value) (n1 n2 L : Nat) (h1 : AN w v1 n1 L) (h2 : AN w v2 n2 L) (hL : L ≤ 274877906944) (h0 : n2 = 0) :
    Calls Tryd.prog 40 #[v1, v2] w (fun e w' => e = .returned (.tuple #[.slice none 0 0, .slice none 0 0, .bool false]) ∧ Gr w w') := by
  subst h0
  have H1 := hid h1
  have H2 := hid h2
  obtain ⟨B1, d1, y1, hv1, _⟩ := h1
  obtain ⟨B2, d2, y2, hv2, _⟩ := h2
  subst hv1
  subst hv2
  go_enter Tryd.func40, Tryd.ntmps40
  go_wp2_with fail
  refine (xnorm_c w _ n1 L H1.out (by omega)).mono ?_
  rintro e w1 ⟨u1, rfl, hu1, hg1⟩
  have HG1 := hid hg1
  clear hu1 hg1
  go_wp2_with fail
  refine (xnorm_c w1 _ 0 L (H2.out.gr HG1.out) (by omega)).mono ?_
  rintro e w2 ⟨u2, rfl, ⟨A2, c2, rfl, _, _, _⟩, hg2⟩
  rw [limbs_zero]
  have HG2 := hid (HG1.out.trans hg2)
  clear hg2
  go_wp2
  go_ret3
  exact ⟨rfl, HG2.out⟩

theorem VN.form' {w : World} {b : Nat} {v : Value} {n L : Nat} (h : VN w b v n L) : ∃ A l c, v = .slice A l c ∧ VN w b (.slice A l c) n L := by
  obtain ⟨A, c, rfl, h2⟩ := h
  exact ⟨A, _, c, rfl, A, c, rfl, h2⟩
set_option maxHeartbeats 4000000 in
theorem xdivmod_c (w : World) (v1 v2 : Value) (n1 n2 L : Nat) (h1 : AN w v1 n1 L) (h2 : AN w v2 n2 L) (hL : L ≤ 274877906944) (h0 : 0 < n2) :
    Calls Tryd.prog 40 #[v1, v2] w (RetVB w true fun u v w' => VN w' w.heap.size u (n1 / n2) L ∧ VN w' w.heap.size v (n1 % n2) L) := by
  have H1 := hid h1
  have H2 := hid h2
  have HL1 : Hid ((limbs n1).length ≤ L) := by
    obtain ⟨A, c, xs, _, hr, hv, hl⟩ := h1
    rw [← hv]
    exact Nat.le_trans (limbs_val_le hr.lim) hl
  have HL2 : Hid ((limbs n2).length ≤ L) := by
    obtain ⟨A, c, xs, _, hr, hv, hl⟩ := h2
    rw [← hv]
    exact Nat.le_trans (limbs_val_le hr.lim) hl
  have HQL : Hid ((limbs (n1 / n2)).length ≤ L) := Nat.le_trans (limbs_mono (Nat.div_le_self _ _)) HL1.out
  have HRL : Hid ((limbs (n1 % n2)).length ≤ L) := Nat.le_trans (limbs_mono (Nat.mod_le _ _)) HL1.out
  obtain ⟨B1, d1, y1, hv1, _⟩ := h1
  obtain ⟨B2, d2, y2, hv2, _⟩ := h2
  subst hv1
  subst hv2
  have hlb0 : (limbs n2).length ≠ 0 := fun h => absurd (limbs_nil.1 (List.eq_nil_of_length_eq_zero h)) (by omega)
  by_cases hlb : (limbs n2).length = 1
  · have HLB := hid hlb
    have hn2 : n2 < 4294967296 := by
      have h := val_lt (limbs_lim n2)
      rw [val_limbs, hlb] at h
      simpa using h
    have hget : (limbs n2).getD 0 0 = (n2 : Int) := by
      rw [limbs_pos (by omega : n2 ≠ 0)]
      simp
      omega
    have HGET := hid hget
    have hd0 : 0 < (n2 : Int) := by omega
    have hd1 : (n2 : Int) ≤ 4294967295 := by omega
    have HH0 := hid h0
    clear hlb0 hlb hget hn2 h0
    go_enter Tryd.func40, Tryd.ntmps40
    go_wp2_with fail
    refine (xnorm_c w _ n1 L H1.out (by omega)).mono ?_
    rintro e w1 ⟨u1, rfl, hu1, hg1⟩
    obtain ⟨A1, m1, c1, rfl, hu1⟩ := hu1.form'
    have HU1 := hid hu1
    have HG1 := hid hg1
    clear hu1 hg1
    go_wp2_with fail
    refine (xnorm_c w1 _ n2 L (H2.out.gr HG1.out) (by omega)).mono ?_
    rintro e w2 ⟨u2, rfl, hu2, hg2⟩
    obtain ⟨A2, c2, rfl, hr2, hl2, ho2⟩ := hu2
    have HU2 : Hid (VN w2 w1.heap.size (.slice A2 1 c2) n2 L) := ⟨A2, c2, by rw [HLB.out], hr2, hl2, ho2⟩
    rw [HLB.out]
    have HU1 := hid (HU1.out.gr hg2)
    have HG12 := hid hg2
    have HG2 := hid (HG1.out.trans hg2)
    obtain ⟨g2, o2, rfl, hc2⟩ := hr2.cells (by rw [HLB.out]; decide)
    have hcx : w2.cell? ⟨g2, o2, none⟩ = some (.int .u32 (n2 : Int)) := by rw [← HGET.out]; exact hc2 0 (by rw [HLB.out]; decide)
    have hcap : 1 ≤ c2 := by have h := hr2.cap; rw [HLB.out] at h; exact h
    clear hr2 hl2 ho2 hg2 hc2
    go_wp2_with fail
    refine (xshort_c w2 _ n1 L (n2 : Int) HU1.out.an (by omega) hd0 hd1).mono ?_
    rintro e w3 ⟨v3, rfl, hv3, hg3⟩
    rw [Int.toNat_natCast] at hv3 ⊢
    obtain ⟨A3, m3, c3, rfl, hv3⟩ := hv3.form'
    have HV3 := hid hv3
    have HG3 := hid (HG2.out.trans hg3)
    have HS2 := hid HG2.out.size
    clear hv3 hg3
    obtain ⟨r, hr⟩ : ∃ r, r = n1 % n2 := ⟨_, rfl⟩
    have hr1 : (r : Int) ≤ 4294967295 := by have := Nat.mod_lt n1 HH0.out; omega
    rw [← hr]
    have HR := hid hr
    clear hr
    go_wp2_with fail
    refine (xof_c w3 (r : Int) (by omega) (by omega)).mono ?_
    rintro e w4 ⟨v4, rfl, hv4, hg4⟩
    rw [Int.toNat_natCast] at hv4
    have HV4 := hid (hv4.base (b' := w.heap.size) HG3.out.size)
    have HV3 := hid ((HV3.out.gr hg4).base (b' := w.heap.size) HS2.out)
    have HG4 := hid (HG3.out.trans hg4)
    clear hv4 hg4
    go_wp2
    go_ret3
    refine ⟨_, _, rfl, ⟨HV3.out, ?_⟩, HG4.out⟩
    have h := HV4.out
    rw [HR.out] at h
    exact h.small HRL.out
  · obtain ⟨lb, hlb2⟩ : ∃ lb, (limbs n2).length = lb := ⟨_, rfl⟩
    have hb2 : 2 ≤ lb := by omega
    have hbL : lb ≤ L := by have := HL2.out; omega
    have HLB := hid hlb2
    have hne0 : ((lb : Int) == 0) = false := by rw [beq_eq_false_iff_ne]; omega
    have hne1 : ((lb : Int) == 1) = false := by rw [beq_eq_false_iff_ne]; omega
    have HB1 := hid (bits_le HL1.out)
    have HB2 := hid (bits_le HL2.out)
    obtain ⟨b1, hb1⟩ : ∃ b, b = bitsN n1 := ⟨_, rfl⟩
    obtain ⟨b2, hb2'⟩ : ∃ b, b = bitsN n2 := ⟨_, rfl⟩
    have hb1L : b1 ≤ 8796093022208 := by have := HB1.out; omega
    have hb2L : b2 ≤ 8796093022208 := by have := HB2.out; omega
    have HBT1 : Hid (∀ V v, AN V v n1 L → Calls Tryd.prog 24 #[v] V (Is V (.int .i64 b1))) := fun V v h => by rw [hb1]; exact xbits_c V v n1 L h (by omega)
    have HBT2 : Hid (∀ V v, AN V v n2 L → Calls Tryd.prog 24 #[v] V (Is V (.int .i64 b2))) := fun V v h => by rw [hb2']; exact xbits_c V v n2 L h (by omega)
    have HH0 := hid h0
    by_cases hlt : b1 < b2
    · have hnn : n1 < n2 := bits_mono (by rw [← hb1, ← hb2']; exact hlt)
      have e1 : n1 / n2 = 0 := Nat.div_eq_of_lt hnn
      have e2 : n1 % n2 = n1 := Nat.mod_eq_of_lt hnn
      rw [e1, e2]
      clear e1 e2 hnn hb1 hb2' hlb0 hlb hlb2 h0
      go_enter Tryd.func40, Tryd.ntmps40
      go_wp2_with fail
      refine (xnorm_c w _ n1 L H1.out (by omega)).mono ?_
      rintro e w1 ⟨u1, rfl, hu1, hg1⟩
      obtain ⟨A1, m1, c1, rfl, hu1⟩ := hu1.form'
      have HU1 := hid hu1
      have HG1 := hid hg1
      clear hu1 hg1
      go_wp2_with fail
      refine (xnorm_c w1 _ n2 L (H2.out.gr HG1.out) (by omega)).mono ?_
      rintro e w2 ⟨u2, rfl, hu2, hg2⟩
      obtain ⟨A2, c2, rfl, hr2, hl2, ho2⟩ := hu2
      have HU2 : Hid (VN w2 w1.heap.size (.slice A2 lb c2) n2 L) := ⟨A2, c2, by rw [HLB.out], hr2, hl2, ho2⟩
      rw [HLB.out]
      have HU1 := hid (HU1.out.gr hg2)
      have HG12 := hid hg2
      have HG2 := hid (HG1.out.trans hg2)
      clear hr2 hl2 ho2 hg2
      go_wp2_with fail
      refine (HBT1.out w2 _ HU1.out.an).mono ?_
      rintro e w3 ⟨rfl, hg3⟩
      have HG3 := hid hg3
      clear hg3
      go_wp2_with fail
      refine (HBT2.out w3 _ (HU2.out.an.gr HG3.out)).mono ?_
      rintro e w4 ⟨rfl, hg4⟩
      have HU1 := hid (HU1.out.gr (HG3.out.trans hg4))
      have HG4 := hid ((HG2.out.trans HG3.out).trans hg4)
      clear hg4
      go_wp2
      go_ret3
      exact ⟨_, _, rfl, ⟨VN.zero _ _ _ _ _, HU1.out⟩, HG4.out⟩
    · obtain ⟨N, hN⟩ : ∃ N, b1 = N + b2 := ⟨b1 - b2, by omega⟩
      have HDS := hid (DmR.start (A := n1) (b := n2) (n := N) h0 (by rw [← hb1, ← hb2']; exact hN.symm))
      subst hN
      obtain ⟨o, ho⟩ : ∃ o, o = N / 32 := ⟨_, rfl⟩
      have q1 : (N : Int).tdiv 32 = (o : Int) := by rw [Int.tdiv_eq_ediv_of_nonneg (by omega)]; omega
      have q3 : (N : Int) / 32 = (o : Int) := by omega
      have ho1 : o ≤ 274877906944 := by omega
      have HO := hid ho
      have hNb : N ≤ 8796093022208 := by omega
      clear hlt hb1 hb2' hlb0 hlb hlb2 h0 ho
      go_enter Tryd.func40, Tryd.ntmps40
      go_wp2_with fail
      refine (xnorm_c w _ n1 L H1.out (by omega)).mono ?_
      rintro e w1 ⟨u1, rfl, hu1, hg1⟩
      obtain ⟨A1, m1, c1, rfl, hu1⟩ := hu1.form'
      have HU1 := hid hu1
      have HG1 := hid hg1
      clear hu1 hg1
      go_wp2_with fail
      refine (xnorm_c w1 _ n2 L (H2.out.gr HG1.out) (by omega)).mono ?_
      rintro e w2 ⟨u2, rfl, hu2, hg2⟩
      obtain ⟨A2, c2, rfl, hr2, hl2, ho2⟩ := hu2
      have HU2 : Hid (VN w2 w1.heap.size (.slice A2 lb c2) n2 L) := ⟨A2, c2, by rw [HLB.out], hr2, hl2, ho2⟩
      rw [HLB.out]
      have HU1 := hid (HU1.out.gr hg2)
      have HG12 := hid hg2
      have HG2 := hid (HG1.out.trans hg2)
      clear hr2 hl2 ho2 hg2
      go_wp2_with fail
      refine (HBT1.out w2 _ HU1.out.an).mono ?_
      rintro e w3 ⟨rfl, hg3⟩
      have HG3 := hid hg3
      clear hg3
      go_wp2_with fail
      refine (HBT2.out w3 _ (HU2.out.an.gr HG3.out)).mono ?_
      rintro e w4 ⟨rfl, hg4⟩
      have HG24 := hid (HG3.out.trans hg4)
      have HG4 := hid (HG2.out.trans HG24.out)
      have HU1 := hid (HU1.out.gr HG24.out)
      have HU2 := hid (HU2.out.gr HG24.out)
      have HAP := hid (VN.apart' HU1.out (Nat.le_refl _))
      clear hg4 HG3
      go_wp2_with (at_make; refine make_full (w0 := w) rfl (.tmp 45) (.tmp 45) 24 78 w.heap.size rfl Tryd.underlying24 Tryd.info_u32 .i64 .i64 _ _ (o + 1) rfl rfl (by omega) (by omega) (by omega) HG4.out.size HG4.out ?_)
      intro w5 hrow hbel hsz hgr
      have HROW := hid hrow
      have HB0 := hid hbel
      have HU1 := hid (HU1.out.gr hgr)
      have HU2 := hid (HU2.out.gr hgr)
      have HSZ := hid hsz
      clear hrow hbel hgr hsz
      go_wp2_with fail
      refine (xshift_c w5 _ n2 L N HU2.out.an (by omega) (by omega)).mono ?_
      rintro e w6 ⟨v6, rfl, hv6, hg6⟩
      rw [← HO.out] at hv6
      obtain ⟨A6, m6, c6, rfl, hv6⟩ := hv6.form'
      have HV6 := hid (hv6.base (b' := w.heap.size) HB0.out.size)
      have HA6 := hid (hv6.apart HSZ.out)
      have HU1 := hid (HU1.out.gr hg6)
      have HROW := hid (HROW.out.grow hg6)
      have HG6 := hid (Gr.trans HB0.out hg6)
      have HSZ := hid (Nat.lt_of_lt_of_le HSZ.out hg6.size)
      clear hv6 hg6
      obtain ⟨K, hK⟩ : ∃ K, K = L + o + 1 := ⟨_, rfl⟩
      have hKL : K ≤ 549755813889 := by omega
      have HKL := hid (show L ≤ K by omega)
      rw [← hK] at HV6
      clear hK
      go_wp2
      go_loopw [0, 11, 12] (fun av dv i wr => ∃ k : Nat, k ≤ N + 1 ∧ i = .int .i64 ((k : Int) - 1) ∧ ∃ (a d : Nat) (A3 A4 : Option Addr) (l3 c3 l4 c4 : Nat) (Q : List Int), av = .slice A3 l3 c3 ∧ dv = .slice A4 l4 c4 ∧ Hid (VN wr w.heap.size (.slice A3 l3 c3) a K) ∧ Hid (VN wr w.heap.size (.slice A4 l4 c4) d K) ∧ Hid (Apart w4.heap.size (.slice A3 l3 c3)) ∧ Hid (Apart w4.heap.size (.slice A4 l4 c4)) ∧
        Hid (Row wr w.heap.size 78 (.slice (some ⟨w4.heap.size, 0, none⟩) (o + 1) (o + 1)) Q) ∧ Hid (Lim Q) ∧ Hid (Q.length = o + 1) ∧ Hid (DmR n1 n2 N k a d (val Q)) ∧ Hid (Below w.heap.size w wr) ∧ Hid (w4.heap.size < wr.heap.size)) (fun _ _ i _ => (intOf i + 1).toNat)
      case atStart => exact ⟨N + 1, Nat.le_refl _, by go_num, n1, n2 * 2 ^ N, _, _, _, _, _, _, _, rfl, rfl, HU1.out.le HKL.out, HV6.out, HAP.out, HA6.out, HROW.out, Lim.replicate _, by simp [Hid], (by have h := HDS.out; rwa [← val_replicate (o + 1)] at h), HG6.out, HSZ.out⟩
      case round =>
        obtain ⟨k, hk, rfl, a, d, A3, A4, l3, c3, l4, c4, Q, rfl, rfl, HA, HD, HPA, HPD, HQ, HQM, HQN, HDM, HBEL, HSW⟩ := hrel
        by_cases hk0 : 0 < k
        · obtain ⟨j, rfl⟩ : ∃ j, k = j + 1 := ⟨k - 1, by omega⟩
          have e : ((j + 1 : Nat) : Int) - 1 = (j : Int) := by omega
          rw [e]
          clear e hk0
          have hj0 : (0 : Int) ≤ j := by omega
          by_cases hc : a < d
          · have HCM : Hid (Calls Tryd.prog 26 #[.slice A3 l3 c3, .slice A4 l4 c4] wr (Is wr (.int .i64 (-1)))) := by
              have h := xcmp_c wr _ _ a d K HA.out.an HD.out.an (by omega)
              rwa [cmpN_lt hc] at h
            have HN := hid (HDM.out.no hc)
            clear hc
            go_wp2_with fail
            refine HCM.out.mono ?_
            rintro e w7 ⟨rfl, hg7⟩
            have HG7 := hid hg7
            clear hg7
            go_wp2_with fail
            refine (xhalf_c w7 _ d K (HD.out.gr HG7.out).an (by omega)).mono ?_
            rintro e w8 ⟨v8, rfl, hv8, hg8⟩
            obtain ⟨A8, m8, c8, rfl, hv8⟩ := hv8.form'
            have HV8 := hid (hv8.base (b' := w.heap.size) (Nat.le_trans HBEL.out.size HG7.out.size))
            have HA8 := hid (hv8.apart (Nat.lt_of_lt_of_le HSW.out HG7.out.size))
            have HG8 := hid (HG7.out.trans hg8)
            clear hv8 hg8
            go_wp2
            go_roundw
            case rel => exact ⟨j, by omega, by go_num, a, d / 2, _, _, _, _, _, _, Q, rfl, rfl, HA.out.gr HG8.out, HV8.out, HPA.out, HA8.out, HQ.out.grow HG8.out, HQM.out, HQN.out, HN.out, Gr.trans HBEL.out HG8.out, Nat.lt_of_lt_of_le HSW.out HG8.out.size⟩
            case measure => first | (simp [intOf]; done) | (simp [intOf]; omega)
          · obtain ⟨kc, hkc⟩ : ∃ k, k = cmpN a d := ⟨_, rfl⟩
            have hkc0 : 0 ≤ kc := by rw [hkc]; unfold cmpN; rw [if_neg hc]; split <;> omega
            have HCM : Hid (Calls Tryd.prog 26 #[.slice A3 l3 c3, .slice A4 l4 c4] wr (Is wr (.int .i64 kc))) := by
              rw [hkc]; exact xcmp_c wr _ _ a d K HA.out.an HD.out.an (by omega)
            have HSB : Hid (∀ V, Gr wr V → Calls Tryd.prog 34 #[.slice A3 l3 c3, .slice A4 l4 c4] V (RetB V true fun v w' => VN w' V.heap.size v (a - d) K)) := fun V hV => by
              have h := xsub_c V _ _ a d K (HA.out.gr hV).an (HD.out.gr hV).an (by omega)
              rwa [decide_eq_true (show d ≤ a by omega)] at h
            have HN := hid (HDM.out.yes (by omega) (by omega))
            obtain ⟨jo, hjo⟩ : ∃ x, x = j / 32 := ⟨_, rfl⟩
            obtain ⟨js, hjs⟩ : ∃ x, x = j % 32 := ⟨_, rfl⟩
            have t1 : (j : Int).tdiv 32 = (jo : Int) := by rw [Int.tdiv_eq_ediv_of_nonneg (by omega)]; omega
            have t2 : (j : Int).tmod 32 = (js : Int) := by rw [Int.tmod_eq_emod_of_nonneg (by omega)]; omega
            have t3 : (j : Int) / 32 = (jo : Int) := by omega
            have t4 : (j : Int) % 32 = (js : Int) := by omega
            have hjo1 : jo < o + 1 := by have := HO.out; omega
            have hjs1 : js < 32 := by omega
            obtain ⟨X, hX, hX0, hX1⟩ := limbU HQM.out jo
            obtain ⟨hb1, hb2x, hb3⟩ := set_bit HQM.out (k := j) (by rw [HQN.out, ← hjo]; exact hjo1) HDM.out.mul (z := X + 2 ^ js) (by rw [hX, hjo, hjs])
            rw [← hjo, ← hjs, ← hX] at hb3
            rw [← hjo] at hb1 hb2x
            obtain ⟨hor, hp0, hp1⟩ := or_bit hjs1 hX0 hX1 hb3
            have hXs : X + 2 ^ js ≤ 4294967295 := by
              have h := hb1.get jo
              rw [getD_set_self (by rw [HQN.out]; exact hjo1)] at h
              exact h.2
            rw [← hb2x] at HN
            have HL2 := hid hb1
            have HXX := hid hX
            clear hc hkc hjo hjs hb1 hb2x hb3 hX
            go_wp2_with fail
            refine HCM.out.mono ?_
            rintro e w7 ⟨rfl, hg7⟩
            have HG7 := hid hg7
            clear hg7
            go_wp2_with fail
            refine (HSB.out w7 HG7.out).mono ?_
            rintro e w8 ⟨v8, rfl, hv8, hg8⟩
            obtain ⟨A8, m8, c8, rfl, hv8⟩ := hv8.form'
            have HG8 := hid (HG7.out.trans hg8)
            have HV8 := hid (hv8.base (b' := w.heap.size) (Nat.le_trans HBEL.out.size HG7.out.size))
            have HA8 := hid (hv8.apart (Nat.lt_of_lt_of_le HSW.out HG7.out.size))
            have HQ8 := hid (HQ.out.grow HG8.out)
            have HD8 := hid (HD.out.gr HG8.out)
            have HB8 := hid (Gr.trans HBEL.out HG8.out)
            have HS8 := hid (Nat.lt_of_lt_of_le HSW.out HG8.out.size)
            obtain ⟨hy1, hy2⟩ := HQ8.out.cell jo hjo1
            rw [← HXX.out] at hy1
            clear hv8 hg8
            go_wp2_with fail
            have hws : (w8.setCell ⟨w4.heap.size, jo, none⟩ (.int .u32 (X + 2 ^ js))).heap.size = w8.heap.size := by simp
            refine (xhalf_c _ _ d K (VN.set' HD8.out HPD.out).an (by omega)).mono ?_
            rintro e w9 ⟨v9, rfl, hv9, hg9⟩
            obtain ⟨A9, m9, c9, rfl, hv9⟩ := hv9.form'
            rw [hws] at hv9
            have HV9 := hid (hv9.base (b' := w.heap.size) HB8.out.size)
            have HA9 := hid (hv9.apart HS8.out)
            have HV8 := hid ((VN.set' HV8.out HA8.out).gr hg9)
            have HQ9 := hid (Row.grow (HQ8.out.set jo (X + 2 ^ js)) hg9)
            have HB9 := hid (Gr.trans (Below.setCell HB8.out HG4.out.size _) hg9)
            have HS9 : Hid (w4.heap.size < w9.heap.size) := Nat.lt_of_lt_of_le HS8.out (by rw [← hws]; exact hg9.size)
            clear hv9 hg9 hws
            go_wp2
            go_roundw
            case rel => exact ⟨j, by omega, by go_num, a - d, d / 2, _, _, _, _, _, _, _, rfl, rfl, HV8.out, HV9.out, HA8.out, HA9.out, HQ9.out, HL2.out, by rw [List.length_set]; exact HQN.out, HN.out, HB9.out, HS9.out⟩
            case measure => first | (simp [intOf]; done) | (simp [intOf]; omega)
        · obtain rfl : k = 0 := by omega
          obtain ⟨hq, ha⟩ := HDM.out.done
          obtain ⟨A', c', hv', hr', ho'⟩ := HQ.out.reads HQM.out
          rw [HQN.out] at hv'
          injection hv' with hv1 _ hv3
          subst hv1; subst hv3
          have HAN : Hid (AN wr (.slice (some ⟨w4.heap.size, 0, none⟩) (o + 1) (o + 1)) (n1 / n2) (o + 1)) := ⟨_, _, Q, by rw [HQN.out], hr', hq, by rw [HQN.out]; exact Nat.le_refl _⟩
          subst ha
          clear hr' ho' hq
          go_wp2_with fail
          refine (xnorm_c wr _ (n1 / n2) (o + 1) HAN.out (by omega)).mono ?_
          rintro e w7 ⟨v7, rfl, hv7, hg7⟩
          have HV7 := hid ((hv7.small HQL.out).base (b' := w.heap.size) HBEL.out.size)
          have HA7 := hid ((HA.out.small HRL.out).gr hg7)
          have HG7 := hid (Gr.trans HBEL.out hg7)
          clear hv7 hg7
          go_wp2
          go_ret3
          exact ⟨_, _, rfl, ⟨HV7.out, HA7.out⟩, HG7.out⟩
end Go.Proofs.YtkbgdiejjabdmaaDoor
