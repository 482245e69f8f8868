/- The walk of nat.Sub, as numbers. -/
import Derived.Test.YtkbgdiejjabdmaaDoorNatC
namespace Go.Proofs.YtkbgdiejjabdmaaDoor
open Go.RowKit

def SubIn (x y : List Int) (w wr : World) (base : Nat) (e : TypeId) (k : Nat) (v cv : Value) : Prop :=
  ∃ d b, cv = .int .u64 b ∧ SubSt x y k d b ∧ Row wr base e v d ∧ Below base w wr

set_option maxHeartbeats 4000000 in
theorem sub_c (w : World) (v1 v2 : Value) (m n L : Nat) (h1 : AN w v1 m L) (h2 : AN w v2 n L) (hL : L ≤ 1099511627776) :
    Calls Tryd.prog 33 #[v1, v2] w (RetB w (decide (n ≤ m)) fun v w' => VN w' w.heap.size v (m - n) L) := by
  have HA1 := hid h1
  have HA2 := hid h2
  obtain ⟨A1, c1, xs, rfl, hr1, rfl, hl1⟩ := h1
  obtain ⟨A2, c2, ys, rfl, hr2, rfl, hl2⟩ := h2
  have T1 := hr1.trim
  have T2 := hr2.trim
  have t1 := limbs_val_le hr1.lim
  have t2 := limbs_val_le hr2.lim
  obtain ⟨x, hx⟩ : ∃ x, x = limbs (val xs) := ⟨_, rfl⟩
  obtain ⟨y, hy⟩ : ∃ y, y = limbs (val ys) := ⟨_, rfl⟩
  have b1 : x.length ≤ 1099511627776 := by rw [hx]; omega
  have b2 : y.length ≤ 1099511627776 := by rw [hy]; omega
  rw [← hx] at T1 t1
  rw [← hy] at T2 t2
  have R1 := hid hr1
  have R2 := hid hr2
  have L1 := hid (show xs.length ≤ 1099511627776 by omega)
  have L2 := hid (show ys.length ≤ 1099511627776 by omega)
  have LX := hid (show x.length ≤ L by omega)
  have HX := hid hx
  have HY := hid hy
  have HT1 := hid T1
  have HT2 := hid T2
  have C1 := hid T1.cells
  have C2 := hid T2.cells
  have AX : Hid (AN w (.slice A1 x.length x.length) (val xs) L) := ⟨A1, _, x, rfl, T1, by rw [hx, val_limbs], by omega⟩
  have AY : Hid (AN w (.slice A2 y.length y.length) (val ys) L) := ⟨A2, _, y, rfl, T2, by rw [hy, val_limbs], by omega⟩
  have HLL := hid hL
  clear hr1 hr2 hl1 hl2 hL T1 T2 hx hy t1 t2
  by_cases hmn : val xs < val ys
  · have hc : cmpN (val xs) (val ys) = -1 := by unfold cmpN; rw [if_pos hmn]
    have HC := hid hc
    have HD : Hid (decide (val ys ≤ val xs) = false) := decide_eq_false (by omega)
    have HZ : Hid (val xs - val ys = 0) := by show _ = _; omega
    clear hc hmn
    go_enter Tryd.func33, Tryd.ntmps33
    go_wp2_with fail
    refine (trim_c _ _ _ _ R1.out (Nat.le_trans L1.out (by decide))).mono ?_
    rw [← HX.out]
    rintro e w' ⟨rfl, rfl⟩
    go_wp2_with fail
    refine (trim_c _ _ _ _ R2.out (Nat.le_trans L2.out (by decide))).mono ?_
    rw [← HY.out]
    rintro e w' ⟨rfl, rfl⟩
    go_wp2_with fail
    refine (cmp_c _ _ _ _ _ _ AX.out AY.out HLL.out).mono ?_
    rw [HC.out]
    rintro e w1 ⟨rfl, hg⟩
    have HG := hid hg
    clear hg
    go_wp2
    go_ret2
    exact ⟨_, by rw [HD.out]; rfl, by rw [HZ.out]; exact VN.zero _ _ _ _ _, HG.out⟩
  · have hc : 0 ≤ cmpN (val xs) (val ys) := by
      unfold cmpN
      rw [if_neg hmn]
      split <;> omega
    obtain ⟨cv, hcv⟩ : ∃ cv, cv = cmpN (val xs) (val ys) := ⟨_, rfl⟩
    rw [← hcv] at hc
    have HCV := hid hcv
    have HMN : Hid (val ys ≤ val xs) := by show _ ≤ _; omega
    clear hmn hcv
    go_enter Tryd.func33, Tryd.ntmps33
    go_wp2_with fail
    refine (trim_c _ _ _ _ R1.out (Nat.le_trans L1.out (by decide))).mono ?_
    rw [← HX.out]
    rintro e w' ⟨rfl, rfl⟩
    go_wp2_with fail
    refine (trim_c _ _ _ _ R2.out (Nat.le_trans L2.out (by decide))).mono ?_
    rw [← HY.out]
    rintro e w' ⟨rfl, rfl⟩
    go_wp2_with fail
    refine (cmp_c _ _ _ _ _ _ AX.out AY.out HLL.out).mono ?_
    rw [← HCV.out]
    rintro e w1 ⟨rfl, hg⟩
    have HG := hid hg
    have HSZ := hid hg.size
    clear hg
    go_wp2_with (at_make; refine make_full (w0 := w) rfl (.tmp 23) (.tmp 23) 24 78 w.heap.size rfl Tryd.underlying24 Tryd.info_u32 .i64 .i64 _ _ x.length rfl rfl rfl rfl (by omega) HSZ.out HG.out ?_)
    intro w2 hrow hbel _ _
    have HB0 := hid hbel
    have HROW := hid hrow
    clear hrow hbel
    go_wp2
    go_loopw [9, 27] (fun cv i wr => ∃ k : Nat, k ≤ x.length ∧ i = .int .i64 k ∧ Hid (SubIn x y w wr w.heap.size 78 k (.slice (some ⟨w1.heap.size, 0, none⟩) x.length x.length) cv)) (fun _ i _ => x.length - (intOf i).toNat)
    case atStart => exact ⟨0, Nat.zero_le _, rfl, _, 0, rfl, SubSt.start _ _, HROW.out, HB0.out⟩
    case round =>
      obtain ⟨k, hk, rfl, HI⟩ := hrel
      obtain ⟨d, b, rfl, hst, hrow, hbel⟩ := HI.out
      have HST := hid hst
      have HROW2 := hid hrow
      have HBEL := hid hbel
      have hb0 := hst.lo
      have hb1 := hst.hi
      clear hst hrow hbel HI
      by_cases hlt : k < x.length
      · obtain ⟨g1, o1, rfl, hcl⟩ := C1.out (by omega)
        have hcx : wr.cell? ⟨g1, o1 + k, none⟩ = some (.int .u32 (x.getD k 0)) := Gr.cell HBEL.out (hcl k hlt)
        have hp := HT1.out.lim.get k
        obtain ⟨p, hpe⟩ : ∃ p, p = x.getD k 0 := ⟨_, rfl⟩
        rw [← hpe] at hcx hp
        obtain ⟨hp0, hp1⟩ := hp
        have HP := hid hpe
        have HCl := hid hcl
        obtain ⟨hd1, hd2⟩ := HROW2.out.cell k hlt
        clear hpe hcl
        by_cases hls : k < y.length
        · obtain ⟨g2, o2, rfl, hcs⟩ := C2.out (by omega)
          have hcy : wr.cell? ⟨g2, o2 + k, none⟩ = some (.int .u32 (y.getD k 0)) := Gr.cell HBEL.out (hcs k hls)
          have hq := HT2.out.lim.get k
          obtain ⟨q, hqe⟩ : ∃ q, q = y.getD k 0 := ⟨_, rfl⟩
          rw [← hqe] at hcy hq
          obtain ⟨hq0, hq1⟩ := hq
          have HQ := hid hqe
          have HCs := hid hcs
          clear hqe hcs
          by_cases hbr : p < b + q
          · have HN := hid (HST.out.next HT1.out.lim HT2.out.lim hlt (z := p + 4294967296 - (b + q)) (b' := 1) (by rw [← HP.out, ← HQ.out]; omega) (by omega) (by omega) (by omega) (by omega))
            go_wp2
            go_roundw
            case rel => exact ⟨k + 1, by omega, by go_num, _, _, rfl, HN.out, HROW2.out.set k _, HBEL.out.setCell (by simpa using HSZ.out) _⟩
            case measure => simp [intOf]; omega
          · have HN := hid (HST.out.next HT1.out.lim HT2.out.lim hlt (z := p - (b + q)) (b' := 0) (by rw [← HP.out, ← HQ.out]; omega) (by omega) (by omega) (by omega) (by omega))
            go_wp2
            go_roundw
            case rel => exact ⟨k + 1, by omega, by go_num, _, _, rfl, HN.out, HROW2.out.set k _, HBEL.out.setCell (by simpa using HSZ.out) _⟩
            case measure => simp [intOf]; omega
        · have hqe : y.getD k 0 = 0 := by rw [List.getD_eq_getElem?_getD, List.getElem?_eq_none (by omega)]; rfl
          have HQ := hid hqe.symm
          clear hqe
          by_cases hbr : p < b
          · have HN := hid (HST.out.next HT1.out.lim HT2.out.lim hlt (z := p + 4294967296 - (b)) (b' := 1) (by rw [← HP.out, ← HQ.out]; omega) (by omega) (by omega) (by omega) (by omega))
            go_wp2
            go_roundw
            case rel => exact ⟨k + 1, by omega, by go_num, _, _, rfl, HN.out, HROW2.out.set k _, HBEL.out.setCell (by simpa using HSZ.out) _⟩
            case measure => simp [intOf]; omega
          · have HN := hid (HST.out.next HT1.out.lim HT2.out.lim hlt (z := p - (b)) (b' := 0) (by rw [← HP.out, ← HQ.out]; omega) (by omega) (by omega) (by omega) (by omega))
            go_wp2
            go_roundw
            case rel => exact ⟨k + 1, by omega, by go_num, _, _, rfl, HN.out, HROW2.out.set k _, HBEL.out.setCell (by simpa using HSZ.out) _⟩
            case measure => simp [intOf]; omega
      · have hkl : k = x.length := by omega
        have HKL := hid hkl
        clear hkl
        obtain ⟨A', c', hv', hr', ho'⟩ := HROW2.out.reads HST.out.lim
        have hlen : d.length = x.length := HST.out.len
        rw [hlen] at hv'
        injection hv' with hv1 _ hv3
        subst hv1; subst hv3
        have HR' : Hid (RdN wr (some ⟨w1.heap.size, 0, none⟩) x.length d) := hr'
        have HO' := hid ho'
        have HLEN := hid hlen
        clear hr' ho' hlen
        go_wp2_with fail
        have htr := trim_c wr (some ⟨w1.heap.size, 0, none⟩) x.length d HR'.out (by have := HLEN.out; omega)
        rw [HLEN.out] at htr
        refine htr.mono ?_
        rintro e w' ⟨rfl, rfl⟩
        have hval : val d = val xs - val ys := by
          have h1 := HST.out
          rw [HKL.out, HX.out, HY.out] at h1
          exact h1.done HMN.out
        have hvn := VN.trim (L := L) HR'.out HO'.out (by have := HLEN.out; have := LX.out; omega)
        rw [hval] at hvn
        rw [hval]
        have HVN := hid hvn
        clear hvn hval htr
        go_wp2
        go_ret2
        exact ⟨_, by rw [decide_eq_true HMN.out]; rfl, HVN.out, HBEL.out⟩
end Go.Proofs.YtkbgdiejjabdmaaDoor
