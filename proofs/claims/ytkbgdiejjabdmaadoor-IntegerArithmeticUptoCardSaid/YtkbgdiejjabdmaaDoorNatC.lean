/- The walks of nat.Add and nat.Sub, as numbers. -/
import Derived.Test.YtkbgdiejjabdmaaDoorNatB
import Derived.Test.YtkbgdiejjabdmaaDoorPl
namespace Go.Proofs.YtkbgdiejjabdmaaDoor
open Go.RowKit

def AddIn (x y : List Int) (w wr : World) (base : Nat) (e : TypeId) (k : Nat) (v cv : Value) : Prop :=
  ∃ xs c, cv = .int .u64 c ∧ AddSt x y k xs c ∧ Row wr base e v xs ∧ Below base w wr

/-- What a row that is handed back says. -/
theorem VN.of_row {w : World} {b : Nat} {e : TypeId} {v : Value} {xs : List Int} {n L : Nat} (hx : xs = limbs n) (h : Row w b e v xs) (hL : (limbs n).length ≤ L) : VN w b v n L := by
  subst hx
  obtain ⟨A, c, rfl, h1, h2⟩ := h.reads (limbs_lim n)
  exact ⟨A, c, rfl, h1, hL, h2⟩
theorem limbs_add_len (m n : Nat) {L : Nat} (h1 : (limbs m).length ≤ L) (h2 : (limbs n).length ≤ L) : (limbs (m + n)).length ≤ L + 1 := by
  have h3 := val_lt (limbs_lim m)
  have h4 := val_lt (limbs_lim n)
  rw [val_limbs] at h3 h4
  have h5 : (4294967296 : Nat) ^ (limbs m).length ≤ 4294967296 ^ L := Nat.pow_le_pow_right (by decide) h1
  have h6 : (4294967296 : Nat) ^ (limbs n).length ≤ 4294967296 ^ L := Nat.pow_le_pow_right (by decide) h2
  refine limbs_length_le ?_
  rw [Nat.pow_succ]
  omega

set_option maxHeartbeats 4000000 in
theorem add_c (w : World) (v1 v2 : Value) (m n L : Nat) (h1 : AN w v1 m L) (h2 : AN w v2 n L) (hL : L ≤ 1099511627776) :
    Calls Tryd.prog 35 #[v1, v2] w (Ret w fun v w' => VN w' w.heap.size v (m + n) (L + 1)) := by
  obtain ⟨A1, c1, xs, rfl, hr1, rfl, hl1⟩ := h1
  obtain ⟨A2, c2, ys, rfl, hr2, rfl, hl2⟩ := h2
  have T1 := hr1.trim
  have T2 := hr2.trim
  have t1 := limbs_val_le hr1.lim
  have t2 := limbs_val_le hr2.lim
  have HV : ∀ (w' : World) (v : Value) {zs : List Int}, zs = limbs (val xs + val ys) → Row w' w.heap.size 78 v zs → VN w' w.heap.size v (val xs + val ys) (L + 1) :=
    fun w' v zs hz hr => VN.of_row hz hr (limbs_add_len _ _ (by omega) (by omega))
  obtain ⟨x, hx⟩ : ∃ x, x = limbs (val xs) := ⟨_, rfl⟩
  obtain ⟨y, hy⟩ : ∃ y, y = limbs (val ys) := ⟨_, rfl⟩
  have b1 : x.length ≤ 1099511627776 := by rw [hx]; omega
  have b2 : y.length ≤ 1099511627776 := by rw [hy]; omega
  rw [← hx] at T1
  rw [← hy] at T2
  have R1 := hid hr1
  have R2 := hid hr2
  have L1 := hid (show xs.length ≤ 1099511627776 by omega)
  have L2 := hid (show ys.length ≤ 1099511627776 by omega)
  have HX := hid hx
  have HY := hid hy
  have HT1 := hid T1
  have HT2 := hid T2
  have C1 := hid T1.cells
  have C2 := hid T2.cells
  have hlow := low32
  clear hr1 hr2 hl1 hl2 hL T1 T2 hx hy t1 t2
  by_cases hlt : x.length < y.length
  · have hLb : 0 ≤ y.length := Nat.zero_le _
    have HSL := hid (show x.length ≤ y.length by omega)
    go_enter Tryd.func35, Tryd.ntmps35
    go_wp2_with fail
    refine (trim_c _ _ _ _ R1.out (Nat.le_trans L1.out (by decide))).mono ?_
    rw [← HX.out]
    rintro e w' ⟨rfl, rfl⟩
    go_wp2_with fail
    refine (trim_c _ _ _ _ R2.out (Nat.le_trans L2.out (by decide))).mono ?_
    rw [← HY.out]
    rintro e w' ⟨rfl, rfl⟩
    go_wp2_with (at_make; refine make_cap (w0 := w) rfl (.const (.int .i64 0)) (.tmp 24) 24 78 w.heap.size rfl Tryd.underlying24 Tryd.info_u32 .i64 .i64 _ (y.length + 1) rfl rfl (by omega) (by omega) (Nat.le_refl _) (Below.refl _ _) ?_)
    intro w1 hrow hbel hsz
    have HB0 := hid hbel
    have HROW := hid hrow
    have HSZ : w.heap.size ≤ w1.heap.size := by omega
    clear hrow hbel hsz
    go_wp2
    go_loopw [7, 8, 28] (fun v cv i wr => ∃ k : Nat, k ≤ y.length ∧ i = .int .i64 k ∧ Hid (AddIn y x w wr w.heap.size 78 k v cv)) (fun _ _ i _ => y.length - (intOf i).toNat)
    case atStart => exact ⟨0, Nat.zero_le _, rfl, [], 0, rfl, AddSt.start _ _, HROW.out, HB0.out⟩
    case round =>
      obtain ⟨k, hk, rfl, HI⟩ := hrel
      obtain ⟨xs2, c, rfl, hst, hrow, hbel⟩ := HI.out
      have HST := hid hst
      have HROW2 := hid hrow
      have HBEL := hid hbel
      have hc0 := hst.lo
      have hc1 := hst.hi
      have hbs := hbel.size
      have HLEN := hid hst.len
      clear hst hrow hbel HI
      by_cases hlt : k < y.length
      · obtain ⟨g1, o1, rfl, hcl⟩ := C2.out (by omega)
        have hcx : wr.cell? ⟨g1, o1 + k, none⟩ = some (.int .u32 (y.getD k 0)) := Gr.cell HBEL.out (hcl k hlt)
        have hp := HT2.out.lim.get k
        obtain ⟨p, hpe⟩ : ∃ p, p = y.getD k 0 := ⟨_, rfl⟩
        rw [← hpe] at hcx hp
        obtain ⟨hp0, hp1⟩ := hp
        have HP := hid hpe
        have HCl := hid hcl
        clear hpe hcl
        have HN := hid (HST.out.next HT2.out.lim HT1.out.lim)
        rw [← HP.out] at HN
        by_cases hls : k < x.length
        · obtain ⟨g2, o2, rfl, hcs⟩ := C1.out (by omega)
          have hcy : wr.cell? ⟨g2, o2 + k, none⟩ = some (.int .u32 (x.getD k 0)) := Gr.cell HBEL.out (hcs k hls)
          have hq := HT1.out.lim.get k
          obtain ⟨q, hqe⟩ : ∃ q, q = x.getD k 0 := ⟨_, rfl⟩
          rw [← hqe] at hcy hq
          obtain ⟨hq0, hq1⟩ := hq
          have HQ := hid hqe
          have HCs := hid hcs
          clear hqe hcs
          rw [← HQ.out] at HN
          go_wp2_with (at_builtin; refine app_one (w0 := w) rfl (.tmp 48) (.tmp 52) 24 78 w.heap.size rfl Tryd.underlying24 Tryd.info_u32 _ xs2 _ rfl rfl HROW2.out (by have := HLEN.out; omega) (by omega) HBEL.out ?_)
          intro v2 w2 hrow2 hbel2
          have HR3 := hid hrow2
          have HB3 := hid hbel2
          clear hrow2 hbel2
          go_wp2
          go_roundw
          case rel => exact ⟨k + 1, by omega, by go_num, _, _, rfl, HN.out, HR3.out, HB3.out⟩
          case measure => simp [intOf]; omega
        · have hq : x.getD k 0 = 0 := by rw [List.getD_eq_getElem?_getD, List.getElem?_eq_none (by omega)]; rfl
          rw [hq, Int.add_zero] at HN
          clear hq
          go_wp2_with (at_builtin; refine app_one (w0 := w) rfl (.tmp 48) (.tmp 52) 24 78 w.heap.size rfl Tryd.underlying24 Tryd.info_u32 _ xs2 _ rfl rfl HROW2.out (by have := HLEN.out; omega) (by omega) HBEL.out ?_)
          intro v2 w2 hrow2 hbel2
          have HR3 := hid hrow2
          have HB3 := hid hbel2
          clear hrow2 hbel2
          go_wp2
          go_roundw
          case rel => exact ⟨k + 1, by omega, by go_num, _, _, rfl, HN.out, HR3.out, HB3.out⟩
          case measure => simp [intOf]; omega
      · have hkl : k = y.length := by omega
        have HKL := hid hkl
        clear hkl
        by_cases hcp : 0 < c
        · go_wp2_with (at_builtin; refine app_one (w0 := w) rfl (.tmp 59) (.tmp 62) 24 78 w.heap.size rfl Tryd.underlying24 Tryd.info_u32 _ xs2 _ rfl rfl HROW2.out (by have := HLEN.out; omega) (by omega) HBEL.out ?_)
          intro v2 w2 hrow2 hbel2
          have HR3 := hid hrow2
          have HB3 := hid hbel2
          clear hrow2 hbel2
          go_wp2
          go_ret
          refine ⟨_, rfl, HV _ _ ?_ HR3.out, HB3.out⟩
          have h1 := HST.out
          rw [HKL.out, HY.out, HX.out] at h1
          have h2 := h1.done1 (by rw [← HX.out, ← HY.out]; exact HSL.out) hcp
          rw [Nat.add_comm]
          exact h2
        · have hc : c = 0 := by omega
          have HC0 := hid hc
          clear hc
          go_wp2
          go_ret
          refine ⟨_, rfl, HV _ _ ?_ HROW2.out, HBEL.out⟩
          have h1 := HST.out
          rw [HKL.out, HY.out, HX.out, HC0.out] at h1
          have h2 := h1.done0 (by rw [← HX.out, ← HY.out]; exact HSL.out)
          rw [Nat.add_comm]
          exact h2
  · have hLb : 0 ≤ x.length := Nat.zero_le _
    have HSL := hid (show y.length ≤ x.length by omega)
    go_enter Tryd.func35, Tryd.ntmps35
    go_wp2_with fail
    refine (trim_c _ _ _ _ R1.out (Nat.le_trans L1.out (by decide))).mono ?_
    rw [← HX.out]
    rintro e w' ⟨rfl, rfl⟩
    go_wp2_with fail
    refine (trim_c _ _ _ _ R2.out (Nat.le_trans L2.out (by decide))).mono ?_
    rw [← HY.out]
    rintro e w' ⟨rfl, rfl⟩
    go_wp2_with (at_make; refine make_cap (w0 := w) rfl (.const (.int .i64 0)) (.tmp 24) 24 78 w.heap.size rfl Tryd.underlying24 Tryd.info_u32 .i64 .i64 _ (x.length + 1) rfl rfl (by omega) (by omega) (Nat.le_refl _) (Below.refl _ _) ?_)
    intro w1 hrow hbel hsz
    have HB0 := hid hbel
    have HROW := hid hrow
    have HSZ : w.heap.size ≤ w1.heap.size := by omega
    clear hrow hbel hsz
    go_wp2
    go_loopw [7, 8, 28] (fun v cv i wr => ∃ k : Nat, k ≤ x.length ∧ i = .int .i64 k ∧ Hid (AddIn x y w wr w.heap.size 78 k v cv)) (fun _ _ i _ => x.length - (intOf i).toNat)
    case atStart => exact ⟨0, Nat.zero_le _, rfl, [], 0, rfl, AddSt.start _ _, HROW.out, HB0.out⟩
    case round =>
      obtain ⟨k, hk, rfl, HI⟩ := hrel
      obtain ⟨xs2, c, rfl, hst, hrow, hbel⟩ := HI.out
      have HST := hid hst
      have HROW2 := hid hrow
      have HBEL := hid hbel
      have hc0 := hst.lo
      have hc1 := hst.hi
      have hbs := hbel.size
      have HLEN := hid hst.len
      clear hst hrow hbel HI
      by_cases hlt : k < x.length
      · obtain ⟨g1, o1, rfl, hcl⟩ := C1.out (by omega)
        have hcx : wr.cell? ⟨g1, o1 + k, none⟩ = some (.int .u32 (x.getD k 0)) := Gr.cell HBEL.out (hcl k hlt)
        have hp := HT1.out.lim.get k
        obtain ⟨p, hpe⟩ : ∃ p, p = x.getD k 0 := ⟨_, rfl⟩
        rw [← hpe] at hcx hp
        obtain ⟨hp0, hp1⟩ := hp
        have HP := hid hpe
        have HCl := hid hcl
        clear hpe hcl
        have HN := hid (HST.out.next HT1.out.lim HT2.out.lim)
        rw [← HP.out] at HN
        by_cases hls : k < y.length
        · obtain ⟨g2, o2, rfl, hcs⟩ := C2.out (by omega)
          have hcy : wr.cell? ⟨g2, o2 + k, none⟩ = some (.int .u32 (y.getD k 0)) := Gr.cell HBEL.out (hcs k hls)
          have hq := HT2.out.lim.get k
          obtain ⟨q, hqe⟩ : ∃ q, q = y.getD k 0 := ⟨_, rfl⟩
          rw [← hqe] at hcy hq
          obtain ⟨hq0, hq1⟩ := hq
          have HQ := hid hqe
          have HCs := hid hcs
          clear hqe hcs
          rw [← HQ.out] at HN
          go_wp2_with (at_builtin; refine app_one (w0 := w) rfl (.tmp 48) (.tmp 52) 24 78 w.heap.size rfl Tryd.underlying24 Tryd.info_u32 _ xs2 _ rfl rfl HROW2.out (by have := HLEN.out; omega) (by omega) HBEL.out ?_)
          intro v2 w2 hrow2 hbel2
          have HR3 := hid hrow2
          have HB3 := hid hbel2
          clear hrow2 hbel2
          go_wp2
          go_roundw
          case rel => exact ⟨k + 1, by omega, by go_num, _, _, rfl, HN.out, HR3.out, HB3.out⟩
          case measure => simp [intOf]; omega
        · have hq : y.getD k 0 = 0 := by rw [List.getD_eq_getElem?_getD, List.getElem?_eq_none (by omega)]; rfl
          rw [hq, Int.add_zero] at HN
          clear hq
          go_wp2_with (at_builtin; refine app_one (w0 := w) rfl (.tmp 48) (.tmp 52) 24 78 w.heap.size rfl Tryd.underlying24 Tryd.info_u32 _ xs2 _ rfl rfl HROW2.out (by have := HLEN.out; omega) (by omega) HBEL.out ?_)
          intro v2 w2 hrow2 hbel2
          have HR3 := hid hrow2
          have HB3 := hid hbel2
          clear hrow2 hbel2
          go_wp2
          go_roundw
          case rel => exact ⟨k + 1, by omega, by go_num, _, _, rfl, HN.out, HR3.out, HB3.out⟩
          case measure => simp [intOf]; omega
      · have hkl : k = x.length := by omega
        have HKL := hid hkl
        clear hkl
        by_cases hcp : 0 < c
        · go_wp2_with (at_builtin; refine app_one (w0 := w) rfl (.tmp 59) (.tmp 62) 24 78 w.heap.size rfl Tryd.underlying24 Tryd.info_u32 _ xs2 _ rfl rfl HROW2.out (by have := HLEN.out; omega) (by omega) HBEL.out ?_)
          intro v2 w2 hrow2 hbel2
          have HR3 := hid hrow2
          have HB3 := hid hbel2
          clear hrow2 hbel2
          go_wp2
          go_ret
          refine ⟨_, rfl, HV _ _ ?_ HR3.out, HB3.out⟩
          have h1 := HST.out
          rw [HKL.out, HX.out, HY.out] at h1
          have h2 := h1.done1 (by rw [← HY.out, ← HX.out]; exact HSL.out) hcp
          skip
          exact h2
        · have hc : c = 0 := by omega
          have HC0 := hid hc
          clear hc
          go_wp2
          go_ret
          refine ⟨_, rfl, HV _ _ ?_ HROW2.out, HBEL.out⟩
          have h1 := HST.out
          rw [HKL.out, HX.out, HY.out, HC0.out] at h1
          have h2 := h1.done0 (by rw [← HY.out, ← HX.out]; exact HSL.out)
          skip
          exact h2
end Go.Proofs.YtkbgdiejjabdmaaDoor
