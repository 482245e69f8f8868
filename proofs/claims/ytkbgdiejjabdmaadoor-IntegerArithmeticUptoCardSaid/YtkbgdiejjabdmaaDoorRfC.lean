/- The walks of the reference's Mul, Bits, short, Shift and half, as numbers. -/
import Derived.Test.YtkbgdiejjabdmaaDoorRfB
import Derived.Deep.RegionHeld3
namespace Go.Proofs.YtkbgdiejjabdmaaDoor
open Go.RowKit

set_option maxHeartbeats 4000000 in
theorem xmul_c (w : World) (v1 v2 : Value) (m n L K : Nat) (h1 : AN w v1 m L) (h2 : AN w v2 n K) (hL : L ≤ 549755813888) (hK : K ≤ 549755813888) :
    Calls Tryd.prog 38 #[v1, v2] w (Ret w fun v w' => VN w' w.heap.size v (m * n) (L + K)) := by
  obtain ⟨A1, c1, x, rfl, hr1, rfl, hl1⟩ := h1
  obtain ⟨A2, c2, y, rfl, hr2, rfl, hl2⟩ := h2
  have R1 := hid hr1
  have R2 := hid hr2
  obtain ⟨a, ha⟩ : ∃ a, a = x.length := ⟨_, rfl⟩
  obtain ⟨b, hb⟩ : ∃ b, b = y.length := ⟨_, rfl⟩
  have ha1 : a ≤ 549755813888 := by omega
  have hb1 : b ≤ 549755813888 := by omega
  rw [← ha, ← hb]
  have HA := hid ha
  have HB := hid hb
  have HAL := hid (show a ≤ L by omega)
  have HBL := hid (show b ≤ K by omega)
  have C1 := hid hr1.cells
  have C2 := hid hr2.cells
  have HLK := hid (show a + b ≤ L + K by omega)
  clear hr1 hr2 hl1 hl2 hL hK ha hb
  go_enter Tryd.func38, Tryd.ntmps38
  go_wp2_with (at_make; refine make_full (w0 := w) rfl (.tmp 14) (.tmp 14) 24 78 w.heap.size rfl Tryd.underlying24 Tryd.info_u32 .i64 .i64 _ _ (a + b) rfl rfl (by omega) (by omega) (by omega) (Nat.le_refl _) (Below.refl _ _) ?_)
  intro w1 hrow hbel _ _
  have HROW := hid hrow
  have HB0 := hid hbel
  clear hrow hbel
  go_wp2
  go_loopw [6] (fun i wr => ∃ k : Nat, k ≤ a ∧ i = .int .i64 k ∧ ∃ d, Hid (MulO x y k d) ∧ Hid (Row wr w.heap.size 78 (.slice (some ⟨w.heap.size, 0, none⟩) (a + b) (a + b)) d) ∧ Hid (Below w.heap.size w wr)) (fun i _ => a - (intOf i).toNat)
  case atStart => exact ⟨0, Nat.zero_le _, rfl, _, (by have h := MulO.start x y; rw [← HA.out, ← HB.out] at h; exact h), HROW.out, HB0.out⟩
  case round =>
    obtain ⟨i, hi, rfl, d, HST, HROW2, HBEL⟩ := hrel
    by_cases hlt : i < a
    · obtain ⟨g1, o1, rfl, hcl⟩ := C1.out (by have := HA.out; omega)
      obtain ⟨p, hp, hp0, hp1⟩ := limbU R1.out.lim i
      have hcx : wr.cell? ⟨g1, o1 + i, none⟩ = some (.int .u32 p) := by rw [hp]; exact Gr.cell HBEL.out (hcl i (by have := HA.out; omega))
      have HP := hid hp
      have HCL := hid hcl
      clear hp hcl
      obtain ⟨wo, hwo⟩ : ∃ wo : World, wo = wr := ⟨_, rfl⟩
      subst hwo
      go_wp2
      go_loopw [7, 8] (fun cv i2 wr => ∃ k : Nat, k ≤ b ∧ i2 = .int .i64 k ∧ ∃ (d : List Int) (cc : Int), cv = .int .u64 cc ∧ Hid (MulI x y i k d cc) ∧ Hid (Row wr w.heap.size 78 (.slice (some ⟨w.heap.size, 0, none⟩) (a + b) (a + b)) d) ∧ Hid (Below w.heap.size w wr)) (fun _ i2 _ => b - (intOf i2).toNat)
      case atStart => exact ⟨0, Nat.zero_le _, rfl, _, 0, rfl, MulI.start HST.out, HROW2.out, HBEL.out⟩
      case round =>
        obtain ⟨k, hk, rfl, d2, cc, rfl, HST2, HROW3, HBEL2⟩ := hrel
        have hc0 := HST2.out.lo
        have hc1 := HST2.out.hi
        by_cases hlk : k < b
        · obtain ⟨g2, o2, rfl, hcs⟩ := C2.out (by have := HB.out; omega)
          obtain ⟨q, hq, hq0, hq1⟩ := limbU R2.out.lim k
          have hcx2 : wr.cell? ⟨g1, o1 + i, none⟩ = some (.int .u32 p) := by rw [HP.out]; exact Gr.cell HBEL2.out (HCL.out i (by have := HA.out; omega))
          have hcy : wr.cell? ⟨g2, o2 + k, none⟩ = some (.int .u32 q) := by rw [hq]; exact Gr.cell HBEL2.out (hcs k (by have := HB.out; omega))
          have HQ := hid hq
          have HCS := hid hcs
          clear hq hcs
          obtain ⟨hd1, hd2⟩ := HROW3.out.cell (i + k) (by omega)
          obtain ⟨D, hD, hD0, hD1⟩ := limbU HST2.out.lim (i + k)
          rw [← hD] at hd1
          obtain ⟨hm0, hm1⟩ := mul_bound hp0 hp1 hq0 hq1
          have HN := hid (HST2.out.next (t := D + p * q + cc) R1.out.lim R2.out.lim (by rw [← HA.out]; exact hlt) (by rw [← HB.out]; exact hlk) (by rw [HP.out, HQ.out, hD]; omega))
          clear hD
          go_wp2
          go_quiet (fail)
          go_wp2
          go_roundw
          case rel => exact ⟨k + 1, by omega, by go_num, _, _, rfl, HN.out, Row.set (show Row (wr.drewN _) _ _ _ _ from HROW3.out) (i + k) _, Below.setCell (Gr.trans HBEL2.out (Gr.drewN wr _)) (by simp) _⟩
          case measure => simp [intOf]; omega
        · have hkl : k = b := by omega
          have HKL := hid hkl
          clear hkl
          have HN : Hid (MulO x y (i + 1) (d2.set (i + b) cc)) := by have h1 := HST2.out; rw [HKL.out, HB.out] at h1; rw [HB.out]; exact h1.done (by rw [← HA.out]; exact hlt)
          obtain ⟨hd1, hd2⟩ := HROW3.out.cell (i + b) (by omega)
          go_wp2
          go_roundw
          case rel => exact ⟨i + 1, by omega, by go_num, _, HN.out, HROW3.out.set (i + b) _, HBEL2.out.setCell (by simp) _⟩
          case measure => simp [intOf]; omega
    · have hkl : i = a := by omega
      subst hkl
      have HST2 : Hid (d.length = i + b) := by have h := HST.out.len; rw [← HA.out, ← HB.out] at h; exact h
      have HVAL : Hid (val d = val x * val y) := by have h := HST.out; rw [HA.out] at h; exact h.done
      obtain ⟨A', c', hv', hr', ho'⟩ := HROW2.out.reads HST.out.lim
      have hlen : d.length = i + b := HST2.out
      rw [hlen] at hv'
      injection hv' with hv1 _ hv3
      subst hv1; subst hv3
      have HAN : Hid (AN wr (.slice (some ⟨w.heap.size, 0, none⟩) (i + b) (i + b)) (val x * val y) (i + b)) := ⟨_, _, d, by rw [hlen], hr', HVAL.out, by omega⟩
      clear hlen hr' ho'
      go_wp2_with fail
      refine (xnorm_c wr _ (val x * val y) (i + b) HAN.out (by omega)).mono ?_
      rintro e w5 ⟨v, rfl, hv, hg⟩
      have HV := hid ((hv.le (K := L + K) HLK.out).base (b' := w.heap.size) HBEL.out.size)
      have HG := hid (Gr.trans HBEL.out hg)
      clear hv hg
      go_wp2
      go_ret
      exact ⟨_, rfl, HV.out, HG.out⟩

theorem bits32 {p : Int} (h0 : 0 ≤ p) (h1 : p ≤ 4294967295) : bitsN p.toNat ≤ 32 := by
  by_cases h : p.toNat = 0
  · rw [h]; decide
  · have h2 := bitsN_lo h
    have h3 : 2 ^ (bitsN p.toNat - 1) < 2 ^ 32 := by omega
    have h4 := (Nat.pow_lt_pow_iff_right (by decide : 1 < 2)).1 h3
    omega
set_option maxHeartbeats 1000000 in
theorem xbits_c (w : World) (v1 : Value) (n L : Nat) (h1 : AN w v1 n L) (hL : L ≤ 1099511627776) :
    Calls Tryd.prog 24 #[v1] w (Is w (.int .i64 (bitsN n))) := by
  have HNM := hid (xnorm_c w v1 n L h1 hL)
  obtain ⟨A0, c0, xs0, hv0, _, _, _⟩ := h1
  subst hv0
  obtain ⟨l0, hl0⟩ : ∃ l, l = xs0.length := ⟨_, rfl⟩
  rw [← hl0] at HNM ⊢
  clear hl0
  by_cases h0 : n = 0
  · subst h0
    rw [show bitsN 0 = 0 from rfl]
    go_enter Tryd.func24, Tryd.ntmps24
    go_wp2_with fail
    refine HNM.out.mono ?_
    rintro e w1 ⟨v, rfl, ⟨A, c, rfl, hr, hl, _⟩, hg⟩
    rw [limbs_zero]
    have HG := hid hg
    clear hr hl hg
    go_wp2
    go_ret
    exact ⟨rfl, HG.out⟩
  · obtain ⟨N, hN⟩ : ∃ N, N = bitsN n := ⟨_, rfl⟩
    obtain ⟨m, hm⟩ : ∃ m, (limbs n).length = m + 1 := ⟨(limbs n).length - 1, by have : (limbs n).length ≠ 0 := fun h => h0 (limbs_nil.1 (List.eq_nil_of_length_eq_zero h)); omega⟩
    have htop := limbs_top hm
    obtain ⟨p, hp, hp0, hp1⟩ := limbU (limbs_lim n) m
    have hbn : bitsN n = 32 * m + bitsN p.toNat := by
      have h := bitsN_limbs (limbs_lim n) hm htop
      rw [val_limbs, ← hp] at h
      exact h
    rw [← hN]
    have HBN : Hid (N = 32 * m + bitsN p.toNat) := by rw [hN]; exact hbn
    have hb32 : bitsN p.toNat ≤ 32 := bits32 hp0 hp1
    have HM := hid hm
    have HP := hid hp
    clear hN htop hbn h0
    go_enter Tryd.func24, Tryd.ntmps24
    go_wp2_with fail
    refine HNM.out.mono ?_
    rintro e w1 ⟨v, rfl, ⟨A, c, rfl, hr, hl, _⟩, hg⟩
    obtain ⟨g, o, rfl, hc⟩ := hr.cells (by rw [hm]; omega)
    have hcx : w1.cell? ⟨g, o + m, none⟩ = some (.int .u32 p) := by rw [hp]; exact hc m (by rw [hm]; omega)
    have hcap := hr.cap
    rw [hm] at hcap hl ⊢
    have hm1 : m ≤ 1099511627776 := by omega
    have hNb : N ≤ 35184372088864 := by have := HBN.out; omega
    clear hb32
    have hne : ((m : Int) + 1 == 0) = false := by rw [beq_eq_false_iff_ne]; omega
    have HG := hid hg
    clear hr hl hg hc hp hm hL
    go_wp2
    go_loopw [3, 4] (fun i xv wr => ∃ (z : Nat) (t : Int), i = .int .i64 z ∧ xv = .int .u32 t ∧ 0 ≤ t ∧ t ≤ 4294967295 ∧ Hid (z + bitsN t.toNat = N) ∧ wr = w1) (fun _ xv _ => (intOf xv).toNat)
    case atStart => exact ⟨32 * m, p, by go_num, rfl, hp0, hp1, HBN.out.symm, rfl⟩
    case round =>
      obtain ⟨z, t, rfl, rfl, ht0, ht1, HZ, rfl⟩ := hrel
      have hz : z ≤ N := by have := HZ.out; omega
      by_cases hpos : 0 < t
      · have HH := hid (bitsN_half (n := t.toNat) (by omega))
        have hdv : t.tdiv 2 = t / 2 := Int.tdiv_eq_ediv_of_nonneg ht0
        have ht2 : 0 ≤ t / 2 ∧ t / 2 ≤ 4294967295 := by omega
        have HT2 : Hid ((t / 2).toNat = t.toNat / 2) := by show (t / 2).toNat = t.toNat / 2; omega
        go_wp2
        go_roundw
        case rel => exact ⟨z + 1, t / 2, by go_num, by go_num, by omega, by omega, by have h1 := HZ.out; have h2 := HH.out; show _ = _; rw [HT2.out]; omega, trivial⟩
        case measure => simp [intOf]; omega
      · have ht : t = 0 := by omega
        subst ht
        have hzn : z = N := by have h := HZ.out; rw [show bitsN (0 : Int).toNat = 0 from rfl] at h; omega
        subst hzn
        go_wp2
        go_ret
        exact ⟨rfl, HG.out⟩

set_option maxHeartbeats 2000000 in
theorem xshort_c (w : World) (v1 : Value) (n L : Nat) (dv : Int) (h1 : AN w v1 n L) (hL : L ≤ 1099511627776) (hd0 : 0 < dv) (hd1 : dv ≤ 4294967295) :
    Calls Tryd.prog 105 #[v1, .int .u64 dv] w (fun e w' => ∃ v, e = .returned (.tuple #[v, .int .u64 ((n % dv.toNat : Nat) : Int)]) ∧ VN w' w.heap.size v (n / dv.toNat) L ∧ Gr w w') := by
  obtain ⟨A1, c1, x, rfl, hr1, rfl, hl1⟩ := h1
  have R1 := hid hr1
  obtain ⟨a, ha⟩ : ∃ a, a = x.length := ⟨_, rfl⟩
  have ha1 : a ≤ 1099511627776 := by omega
  rw [← ha]
  have HA := hid ha
  have HAL := hid (show a ≤ L by omega)
  have C1 := hid hr1.cells
  obtain ⟨RR, hRR⟩ : ∃ R, R = ((val x % dv.toNat : Nat) : Int) := ⟨_, rfl⟩
  rw [← hRR]
  have HRR := hid hRR
  clear hr1 hl1 hL ha hRR
  go_enter Tryd.func105, Tryd.ntmps105
  go_wp2_with (at_make; refine make_full (w0 := w) rfl (.tmp 11) (.tmp 11) 24 78 w.heap.size rfl Tryd.underlying24 Tryd.info_u32 .i64 .i64 _ _ (a) rfl rfl (by omega) (by omega) (by omega) (Nat.le_refl _) (Below.refl _ _) ?_)
  intro w1 hrow hbel _ _
  have HROW := hid hrow
  have HB0 := hid hbel
  clear hrow hbel
  go_wp2
  go_loopw [7, 8] (fun rv i wr => ∃ k : Nat, k ≤ a ∧ i = .int .i64 ((k : Int) - 1) ∧ ∃ (d : List Int) (r : Int), rv = .int .u64 r ∧ Hid (DivS x dv k d r) ∧ Hid (Row wr w.heap.size 78 (.slice (some ⟨w.heap.size, 0, none⟩) a a) d) ∧ Hid (Below w.heap.size w wr)) (fun _ i _ => (intOf i + 1).toNat)
  case atStart => exact ⟨a, Nat.le_refl _, by go_num, _, 0, rfl, (by have h := DivS.start x hd0; rw [← HA.out] at h; exact h), HROW.out, HB0.out⟩
  case round =>
    obtain ⟨k, hk, rfl, d, r, rfl, HST, HROW2, HBEL⟩ := hrel
    have hr0 := HST.out.lo
    have hr1 := HST.out.hi
    by_cases hk0 : 0 < k
    · obtain ⟨j, rfl⟩ : ∃ j, k = j + 1 := ⟨k - 1, by omega⟩
      have e : ((j + 1 : Nat) : Int) - 1 = (j : Int) := by omega
      rw [e]
      clear e hk0
      have hj0 : (0 : Int) ≤ j := by omega
      obtain ⟨g1, o1, rfl, hcl⟩ := C1.out (by have := HA.out; omega)
      obtain ⟨p, hp, hp0, hp1⟩ := limbU R1.out.lim j
      have hcx : wr.cell? ⟨g1, o1 + j, none⟩ = some (.int .u32 p) := by rw [hp]; exact Gr.cell HBEL.out (hcl j (by have := HA.out; omega))
      obtain ⟨t, ht⟩ : ∃ t, t = r * 4294967296 + p := ⟨_, rfl⟩
      have HN := hid (HST.out.next (t := t) R1.out.lim (by rw [← HA.out]; omega) (by omega) (by rw [ht, hp]))
      have ht0 : 0 ≤ t := by omega
      have ht1 : t < 18446744073709551616 := by omega
      have hq0 : 0 ≤ t / dv := Int.ediv_nonneg ht0 (by omega)
      have hq1 : t / dv ≤ 4294967295 := by
        have : t / dv < 4294967296 := by rw [Int.ediv_lt_iff_lt_mul hd0]; omega
        omega
      have hm0 := Int.emod_nonneg t (show dv ≠ 0 by omega)
      have hm1 := Int.emod_lt_of_pos t hd0
      have htd : t.tdiv dv = t / dv := Int.tdiv_eq_ediv_of_nonneg ht0
      have htm : t.tmod dv = t % dv := Int.tmod_eq_emod_of_nonneg ht0
      have HT := hid ht
      have hCL := hid hcl
      clear hp hcl
      obtain ⟨hd3, hd2⟩ := HROW2.out.cell j (by omega)
      obtain ⟨D, hD⟩ : ∃ D, D = d.getD j 0 := ⟨_, rfl⟩
      rw [← hD] at hd3
      have hw1 : IntKind.u64.wrap (r * 4294967296) = r * 4294967296 := IntWalk.u64_in _ (by omega)
      have hw2 : IntKind.u64.wrap (r * 4294967296 + p) = t := by rw [← ht]; exact IntWalk.u64_in _ (by omega)
      clear hD ht
      go_wp2
      refine ⟨⟨j, by omega, by go_num, _, _, rfl, HN.out, HROW2.out.set j _, HBEL.out.setCell (by simp) _⟩, by first | (simp [intOf]; done) | (simp [intOf]; omega)⟩
    · obtain rfl : k = 0 := by omega
      obtain ⟨hv1, hv2⟩ := HST.out.done
      have hrr : r = RR := by rw [HRR.out, ← hv2]; omega
      subst hrr
      have HVAL := hid hv1
      have HST2 : Hid (d.length = a) := by have h := HST.out.len; rw [← HA.out] at h; exact h
      clear hv1 hv2
      obtain ⟨A', c', hv', hr', ho'⟩ := HROW2.out.reads HST.out.lim
      have hlen : d.length = a := HST2.out
      rw [hlen] at hv'
      injection hv' with hv1 _ hv3
      subst hv1; subst hv3
      have HAN : Hid (AN wr (.slice (some ⟨w.heap.size, 0, none⟩) (a) (a)) (val x / dv.toNat) (a)) := ⟨_, _, d, by rw [hlen], hr', HVAL.out, by omega⟩
      clear hlen hr' ho'
      go_wp2_with fail
      refine (xnorm_c wr _ (val x / dv.toNat) (a) HAN.out (by omega)).mono ?_
      rintro e w5 ⟨v, rfl, hv, hg⟩
      have HV := hid ((hv.le (K := L) HAL.out).base (b' := w.heap.size) HBEL.out.size)
      have HG := hid (Gr.trans HBEL.out hg)
      clear hv hg
      go_wp2
      go_ret2
      exact ⟨_, rfl, HV.out, HG.out⟩
end Go.Proofs.YtkbgdiejjabdmaaDoor
