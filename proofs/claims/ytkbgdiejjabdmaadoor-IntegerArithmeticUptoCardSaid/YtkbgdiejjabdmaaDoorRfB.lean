/- The walks of the reference's Add and Sub, as numbers. -/
import Derived.Test.YtkbgdiejjabdmaaDoorRfA
namespace Go.Proofs.YtkbgdiejjabdmaaDoor
open Go.RowKit

set_option maxHeartbeats 4000000 in
theorem xadd_c (w : World) (v1 v2 : Value) (m n L : Nat) (h1 : AN w v1 m L) (h2 : AN w v2 n L) (hL : L ≤ 1099511627775) :
    Calls Tryd.prog 36 #[v1, v2] w (Ret w fun v w' => VN w' w.heap.size v (m + n) (L + 1)) := by
  obtain ⟨A1, c1, x, rfl, hr1, rfl, hl1⟩ := h1
  obtain ⟨A2, c2, y, rfl, hr2, rfl, hl2⟩ := h2
  have R1 := hid hr1
  have R2 := hid hr2
  obtain ⟨a, ha⟩ : ∃ a, a = x.length := ⟨_, rfl⟩
  obtain ⟨b, hb⟩ : ∃ b, b = y.length := ⟨_, rfl⟩
  have ha1 : a ≤ 1099511627776 := by omega
  have hb1 : b ≤ 1099511627776 := by omega
  rw [← ha, ← hb]
  have HA := hid ha
  have HB := hid hb
  have HAL := hid (show a ≤ L by omega)
  have HBL := hid (show b ≤ L by omega)
  have HLX : Hid (∀ (V : World) (k : Nat), Gr w V → k ≤ 4398046511104 → Calls Tryd.prog 96 #[.slice A1 a c1, .int .i64 k] V fun e w' => e = .returned (.int .u64 (x.getD k 0)) ∧ V = w') := fun V k hV hk => xlimb_c V A1 c1 a k x (R1.out.gr hV) HA.out ha1 hk
  have HLY : Hid (∀ (V : World) (k : Nat), Gr w V → k ≤ 4398046511104 → Calls Tryd.prog 96 #[.slice A2 b c2, .int .i64 k] V fun e w' => e = .returned (.int .u64 (y.getD k 0)) ∧ V = w') := fun V k hV hk => xlimb_c V A2 c2 b k y (R2.out.gr hV) HB.out hb1 hk
  obtain ⟨N, hN⟩ : ∃ N, N = max a b + 1 := ⟨_, rfl⟩
  have hNI : max (a : Int) (b : Int) = (N : Int) - 1 := by omega
  have hNa : a < N := by omega
  have hNb : b < N := by omega
  have hNc : N ≤ 1099511627776 := by omega
  have HNL := hid (show N ≤ L + 1 by omega)
  clear hr1 hr2 hl1 hl2 hL ha hb hN
  go_enter Tryd.func36, Tryd.ntmps36
  go_wp2_with (at_make; refine make_full (w0 := w) rfl (.tmp 14) (.tmp 14) 24 78 w.heap.size rfl Tryd.underlying24 Tryd.info_u32 .i64 .i64 _ _ N rfl rfl (by omega) (by omega) (by omega) (Nat.le_refl _) (Below.refl _ _) ?_)
  intro w1 hrow hbel _ _
  have HROW := hid hrow
  have HB0 := hid hbel
  clear hrow hbel
  go_wp2
  go_loopw [6, 7] (fun cv i wr => ∃ k : Nat, k ≤ N ∧ i = .int .i64 k ∧ ∃ (d : List Int) (cc : Int), cv = .int .u64 cc ∧ Hid (RAdd x y N k d cc) ∧ Hid (Row wr w.heap.size 78 (.slice (some ⟨w.heap.size, 0, none⟩) N N) d) ∧ Hid (Below w.heap.size w wr)) (fun _ i _ => N - (intOf i).toNat)
  case atStart => exact ⟨0, Nat.zero_le _, rfl, _, 0, rfl, RAdd.start x y N, HROW.out, HB0.out⟩
  case round =>
    obtain ⟨k, hk, rfl, d, cc, rfl, HST, HROW2, HBEL⟩ := hrel
    have hc0 := HST.out.lo
    have hc1 := HST.out.hi
    by_cases hlt : k < N
    · obtain ⟨p, hp, hp0, hp1⟩ := limbU R1.out.lim k
      obtain ⟨q, hq, hq0, hq1⟩ := limbU R2.out.lim k
      have HN := hid (HST.out.next (t := p + q + cc) R1.out.lim R2.out.lim hlt (by rw [hp, hq]))
      have HP := hid hp
      have HQ := hid hq
      clear hp hq
      obtain ⟨hd1, hd2⟩ := HROW2.out.cell k hlt
      obtain ⟨D, hD⟩ : ∃ D, D = d.getD k 0 := ⟨_, rfl⟩
      rw [← hD] at hd1
      clear hD
      go_wp2_with fail
      refine (HLX.out wr k HBEL.out (by omega)).mono ?_
      rw [← HP.out]
      rintro e w' ⟨rfl, rfl⟩
      go_wp2_with fail
      refine (HLY.out wr k HBEL.out (by omega)).mono ?_
      rw [← HQ.out]
      rintro e w' ⟨rfl, rfl⟩
      go_wp2
      go_roundw
      case rel => exact ⟨k + 1, by omega, by go_num, _, _, rfl, HN.out, HROW2.out.set k _, HBEL.out.setCell (by simp) _⟩
      case measure => simp [intOf]; omega
    · have hkl : k = N := by omega
      subst hkl
      have HVAL := hid (HST.out.done R1.out.lim R2.out.lim (by rw [← HA.out]; exact hNa) (by rw [← HB.out]; exact hNb))
      obtain ⟨A', c', hv', hr', ho'⟩ := HROW2.out.reads HST.out.lim
      have hlen : d.length = k := HST.out.len
      rw [hlen] at hv'
      injection hv' with hv1 _ hv3
      subst hv1; subst hv3
      have HAN : Hid (AN wr (.slice (some ⟨w.heap.size, 0, none⟩) (k) (k)) (val x + val y) (k)) := ⟨_, _, d, by rw [hlen], hr', HVAL.out, by omega⟩
      clear hlen hr' ho'
      go_wp2_with fail
      refine (xnorm_c wr _ (val x + val y) (k) HAN.out (by omega)).mono ?_
      rintro e w5 ⟨v, rfl, hv, hg⟩
      have HV := hid ((hv.le (K := L + 1) HNL.out).base (b' := w.heap.size) HBEL.out.size)
      have HG := hid (Gr.trans HBEL.out hg)
      clear hv hg
      go_wp2
      go_ret
      exact ⟨_, rfl, HV.out, HG.out⟩

theorem cmpN_ge {m n : Nat} (h : ¬ (cmpN m n < 0)) : n ≤ m := by
  unfold cmpN at h
  split at h
  · exact absurd (by omega) h
  · omega
set_option maxHeartbeats 4000000 in
theorem xsub_c (w : World) (v1 v2 : Value) (m n L : Nat) (h1 : AN w v1 m L) (h2 : AN w v2 n L) (hL : L ≤ 1099511627776) :
    Calls Tryd.prog 34 #[v1, v2] w (RetB w (decide (n ≤ m)) fun v w' => VN w' w.heap.size v (m - n) L) := by
  have HCM := hid (xcmp_c w v1 v2 m n L h1 h2 hL)
  obtain ⟨A1, c1, x, rfl, hr1, rfl, hl1⟩ := h1
  obtain ⟨A2, c2, y, rfl, hr2, rfl, hl2⟩ := h2
  have R1 := hid hr1
  have R2 := hid hr2
  obtain ⟨a, ha⟩ : ∃ a, a = x.length := ⟨_, rfl⟩
  obtain ⟨b, hb⟩ : ∃ b, b = y.length := ⟨_, rfl⟩
  have ha1 : a ≤ 1099511627776 := by omega
  have hb1 : b ≤ 1099511627776 := by omega
  rw [← ha, ← hb]
  have HA := hid ha
  have HB := hid hb
  have HAL := hid (show a ≤ L by omega)
  have HBL := hid (show b ≤ L by omega)
  rw [← ha, ← hb] at HCM
  have HLX : Hid (∀ (V : World) (k : Nat), Gr w V → k ≤ 4398046511104 → Calls Tryd.prog 96 #[.slice A1 a c1, .int .i64 k] V fun e w' => e = .returned (.int .u64 (x.getD k 0)) ∧ V = w') := fun V k hV hk => xlimb_c V A1 c1 a k x (R1.out.gr hV) HA.out ha1 hk
  have HLY : Hid (∀ (V : World) (k : Nat), Gr w V → k ≤ 4398046511104 → Calls Tryd.prog 96 #[.slice A2 b c2, .int .i64 k] V fun e w' => e = .returned (.int .u64 (y.getD k 0)) ∧ V = w') := fun V k hV hk => xlimb_c V A2 c2 b k y (R2.out.gr hV) HB.out hb1 hk
  obtain ⟨kc, hkc⟩ : ∃ k, k = cmpN (val x) (val y) := ⟨_, rfl⟩
  rw [← hkc] at HCM
  clear hr1 hr2 hl1 hl2 hL ha hb
  by_cases hlt : kc < 0
  · have hd : ¬ (val y ≤ val x) := by
      intro h
      rw [hkc] at hlt
      unfold cmpN at hlt
      rw [if_neg (by omega)] at hlt
      split at hlt <;> omega
    have HD := hid hd
    have hz : val x - val y = 0 := by omega
    have HZ := hid hz
    rw [decide_eq_false hd]
    clear hkc hd hz
    go_enter Tryd.func34, Tryd.ntmps34
    go_wp2_with fail
    refine HCM.out.mono ?_
    rintro e w1 ⟨rfl, hg⟩
    have HG := hid hg
    clear hg
    go_wp2
    go_ret2
    exact ⟨_, rfl, by rw [HZ.out]; exact VN.zero _ _ _ _ _, HG.out⟩
  · have hle : val y ≤ val x := cmpN_ge (by rw [← hkc]; exact hlt)
    have HLE := hid hle
    rw [decide_eq_true hle]
    clear hkc hle
    go_enter Tryd.func34, Tryd.ntmps34
    go_wp2_with fail
    refine HCM.out.mono ?_
    rintro e w0 ⟨rfl, hg⟩
    have HG0 := hid hg
    clear hg
    go_wp2_with (at_make; refine make_full (w0 := w) rfl (.tmp 16) (.tmp 16) 24 78 w.heap.size rfl Tryd.underlying24 Tryd.info_u32 .i64 .i64 _ _ a rfl rfl rfl rfl (by omega) HG0.out.size HG0.out ?_)
    intro w1 hrow hbel _ _
    have HROW := hid hrow
    have HB0 := hid hbel
    clear hrow hbel
    go_wp2
    go_loopw [7, 8] (fun cv i wr => ∃ k : Nat, k ≤ a ∧ i = .int .i64 k ∧ ∃ (d : List Int) (cc : Int), cv = .int .u64 cc ∧ Hid (SubSt x y k d cc) ∧ Hid (Row wr w.heap.size 78 (.slice (some ⟨w0.heap.size, 0, none⟩) a a) d) ∧ Hid (Below w.heap.size w wr)) (fun _ i _ => a - (intOf i).toNat)
    case atStart => exact ⟨0, Nat.zero_le _, rfl, _, 0, rfl, (by have h := SubSt.start x y; rw [← HA.out] at h; exact h), HROW.out, HB0.out⟩
    case round =>
      obtain ⟨k, hk, rfl, d, cc, rfl, HST, HROW2, HBEL⟩ := hrel
      have hc0 := HST.out.lo
      have hc1 := HST.out.hi
      by_cases hlt : k < a
      · obtain ⟨p, hp, hp0, hp1⟩ := limbU R1.out.lim k
        obtain ⟨q, hq, hq0, hq1⟩ := limbU R2.out.lim k
        have HP := hid hp
        have HQ := hid hq
        clear hp hq
        have HNX : Hid (∀ z b', p + 4294967296 * b' = z + (cc + q) → 0 ≤ z → z ≤ 4294967295 → 0 ≤ b' → b' ≤ 1 → SubSt x y (k + 1) (d.set k z) b') := fun z b' e z0 z1 l0 l1 => HST.out.next R1.out.lim R2.out.lim (by rw [← HA.out]; exact hlt) (by rw [← HP.out, ← HQ.out]; exact e) z0 z1 l0 l1
        obtain ⟨hd1, hd2⟩ := HROW2.out.cell k hlt
        obtain ⟨D, hD⟩ : ∃ D, D = d.getD k 0 := ⟨_, rfl⟩
        rw [← hD] at hd1
        clear hD
        by_cases hpq : p < q + cc
        · go_wp2_with fail
          refine (HLX.out wr k HBEL.out (by omega)).mono ?_
          rw [← HP.out]
          rintro e w' ⟨rfl, rfl⟩
          go_wp2_with fail
          refine (HLY.out wr k HBEL.out (by omega)).mono ?_
          rw [← HQ.out]
          rintro e w' ⟨rfl, rfl⟩
          go_wp2
          go_roundw
          case rel => exact ⟨k + 1, by omega, by go_num, _, _, rfl, HNX.out _ 1 (by omega) (by omega) (by omega) (by omega) (by omega), HROW2.out.set k _, HBEL.out.setCell HG0.out.size _⟩
          case measure => simp [intOf]; omega
        · go_wp2_with fail
          refine (HLX.out wr k HBEL.out (by omega)).mono ?_
          rw [← HP.out]
          rintro e w' ⟨rfl, rfl⟩
          go_wp2_with fail
          refine (HLY.out wr k HBEL.out (by omega)).mono ?_
          rw [← HQ.out]
          rintro e w' ⟨rfl, rfl⟩
          go_wp2
          go_roundw
          case rel => exact ⟨k + 1, by omega, by go_num, _, _, rfl, HNX.out _ 0 (by omega) (by omega) (by omega) (by omega) (by omega), HROW2.out.set k _, HBEL.out.setCell HG0.out.size _⟩
          case measure => simp [intOf]; omega
      · have hkl : k = a := by omega
        subst hkl
        have HST2 : Hid (d.length = k) := by have h := HST.out.len; rw [← HA.out] at h; exact h
        have HVAL : Hid (val d = val x - val y) := by have h := HST.out; rw [HA.out] at h; exact h.done' R1.out.lim HLE.out
        obtain ⟨A', c', hv', hr', ho'⟩ := HROW2.out.reads HST.out.lim
        have hlen : d.length = k := HST2.out
        rw [hlen] at hv'
        injection hv' with hv1 _ hv3
        subst hv1; subst hv3
        have HAN : Hid (AN wr (.slice (some ⟨w0.heap.size, 0, none⟩) (k) (k)) (val x - val y) (k)) := ⟨_, _, d, by rw [hlen], hr', HVAL.out, by omega⟩
        clear hlen hr' ho'
        go_wp2_with fail
        refine (xnorm_c wr _ (val x - val y) (k) HAN.out (by omega)).mono ?_
        rintro e w5 ⟨v, rfl, hv, hg⟩
        have HV := hid ((hv.le (K := L) HAL.out).base (b' := w.heap.size) HBEL.out.size)
        have HG := hid (Gr.trans HBEL.out hg)
        clear hv hg
        go_wp2
        go_ret2
        exact ⟨_, rfl, HV.out, HG.out⟩
end Go.Proofs.YtkbgdiejjabdmaaDoor
