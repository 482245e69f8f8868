/- The walk of nat.Mul, as numbers. -/
import Derived.Test.YtkbgdiejjabdmaaDoorNatC2
import Derived.Test.YtkbgdiejjabdmaaDoorPl
namespace Go.Proofs.YtkbgdiejjabdmaaDoor
open Go.RowKit

def MulOut (x y : List Int) (w wr : World) (base : Nat) (e : TypeId) (i : Nat) (v : Value) : Prop := ∃ d, MulO x y i d ∧ Row wr base e v d ∧ Below base w wr
def MulIn (x y : List Int) (w wr : World) (base : Nat) (e : TypeId) (i k : Nat) (v cv : Value) : Prop := ∃ d c, cv = .int .u64 c ∧ MulI x y i k d c ∧ Row wr base e v d ∧ Below base w wr

set_option maxHeartbeats 4000000 in
theorem mul_c (w : World) (v1 v2 : Value) (m n L K : Nat) (h1 : AN w v1 m L) (h2 : AN w v2 n K) (hL : L ≤ 1099511627776) (hK : K ≤ 1099511627776) :
    Calls Tryd.prog 37 #[v1, v2] w (Ret w fun v w' => VN w' w.heap.size v (m * n) (L + K)) := by
  obtain ⟨A1, c1, xs, rfl, hr1, rfl, hl1⟩ := h1
  obtain ⟨A2, c2, ys, rfl, hr2, rfl, hl2⟩ := h2
  have T1 := hr1.trim
  have T2 := hr2.trim
  have t1 := limbs_val_le hr1.lim
  have t2 := limbs_val_le hr2.lim
  obtain ⟨x, hx⟩ : ∃ x, x = limbs (val xs) := ⟨_, rfl⟩
  obtain ⟨y, hy⟩ : ∃ y, y = limbs (val ys) := ⟨_, rfl⟩
  have b1 : x.length ≤ 1099511627776 := by rw [hx]; omega
  have b2 : y.length ≤ 1099511627776 := by rw [hy]; omega
  rw [← hx] at T1 t1
  rw [← hy] at T2 t2
  have HLK := hid (show x.length + y.length ≤ L + K by omega)
  have R1 := hid hr1
  have R2 := hid hr2
  have L1 := hid (show xs.length ≤ 1099511627776 by omega)
  have L2 := hid (show ys.length ≤ 1099511627776 by omega)
  have HX := hid hx
  have HY := hid hy
  have HT1 := hid T1
  have HT2 := hid T2
  have C1 := hid T1.cells
  have C2 := hid T2.cells
  have hlow := low32
  clear hr1 hr2 hl1 hl2 hL hK T1 T2 hx hy t1 t2
  by_cases hx0 : x.length = 0
  · have hp : val xs * val ys = 0 := by
      rw [show val xs = 0 from limbs_nil.1 (by rw [← HX.out]; exact List.eq_nil_of_length_eq_zero hx0), Nat.zero_mul]
    have HP := hid hp
    have HX0 := hid hx0
    clear hp hx0 b1
    go_enter Tryd.func37, Tryd.ntmps37
    go_wp2_with fail
    refine (trim_c _ _ _ _ R1.out (Nat.le_trans L1.out (by decide))).mono ?_
    rw [← HX.out, HX0.out]
    rintro e w' ⟨rfl, rfl⟩
    go_wp2_with fail
    refine (trim_c _ _ _ _ R2.out (Nat.le_trans L2.out (by decide))).mono ?_
    rw [← HY.out]
    rintro e w' ⟨rfl, rfl⟩
    go_wp2
    go_ret
    exact ⟨_, rfl, by rw [HP.out]; exact VN.zero _ _ _ _ _, Gr.refl _⟩
  have hxb : ((x.length : Int) == 0) = false := by rw [beq_eq_false_iff_ne]; omega
  by_cases hy0 : y.length = 0
  · have hp : val xs * val ys = 0 := by
      rw [show val ys = 0 from limbs_nil.1 (by rw [← HY.out]; exact List.eq_nil_of_length_eq_zero hy0), Nat.mul_zero]
    have HP := hid hp
    have HY0 := hid hy0
    clear hp hy0 b2 hx0
    go_enter Tryd.func37, Tryd.ntmps37
    go_wp2_with fail
    refine (trim_c _ _ _ _ R1.out (Nat.le_trans L1.out (by decide))).mono ?_
    rw [← HX.out]
    rintro e w' ⟨rfl, rfl⟩
    go_wp2_with fail
    refine (trim_c _ _ _ _ R2.out (Nat.le_trans L2.out (by decide))).mono ?_
    rw [← HY.out, HY0.out]
    rintro e w' ⟨rfl, rfl⟩
    go_wp2
    go_ret
    exact ⟨_, rfl, by rw [HP.out]; exact VN.zero _ _ _ _ _, Gr.refl _⟩
  have hyb : ((y.length : Int) == 0) = false := by rw [beq_eq_false_iff_ne]; omega
  go_enter Tryd.func37, Tryd.ntmps37
  go_wp2_with fail
  refine (trim_c _ _ _ _ R1.out (Nat.le_trans L1.out (by decide))).mono ?_
  rw [← HX.out]
  rintro e w' ⟨rfl, rfl⟩
  go_wp2_with fail
  refine (trim_c _ _ _ _ R2.out (Nat.le_trans L2.out (by decide))).mono ?_
  rw [← HY.out]
  rintro e w' ⟨rfl, rfl⟩
  go_wp2_with (at_make; refine make_full (w0 := w) rfl (.tmp 29) (.tmp 29) 24 78 w.heap.size rfl Tryd.underlying24 Tryd.info_u32 .i64 .i64 _ _ (x.length + y.length) rfl rfl (by omega) (by omega) (by omega) (Nat.le_refl _) (Below.refl _ _) ?_)
  intro w2 hrow hbel _ _
  have HB0 := hid hbel
  have HROW := hid hrow
  clear hrow hbel
  go_wp2
  go_loopw [33] (fun i wr => ∃ k : Nat, k ≤ x.length ∧ i = .int .i64 k ∧ Hid (MulOut x y w wr w.heap.size 78 k (.slice (some ⟨w.heap.size, 0, none⟩) (x.length + y.length) (x.length + y.length)))) (fun i _ => x.length - (intOf i).toNat)
  case atStart => exact ⟨0, Nat.zero_le _, rfl, _, MulO.start x y, HROW.out, HB0.out⟩
  case round =>
    obtain ⟨i, hi, rfl, HI⟩ := hrel
    obtain ⟨d, hst, hrow, hbel⟩ := HI.out
    have HST := hid hst
    have HROW2 := hid hrow
    have HBEL := hid hbel
    clear hst hrow hbel HI
    by_cases hlt : i < x.length
    · obtain ⟨g1, o1, rfl, hcl⟩ := C1.out (by omega)
      have hcx : wr.cell? ⟨g1, o1 + i, none⟩ = some (.int .u32 (x.getD i 0)) := Gr.cell HBEL.out (hcl i hlt)
      have hp := HT1.out.lim.get i
      obtain ⟨p, hpe⟩ : ∃ p, p = x.getD i 0 := ⟨_, rfl⟩
      rw [← hpe] at hcx hp
      obtain ⟨hp0, hp1⟩ := hp
      have HP := hid hpe
      have HCl := hid hcl
      clear hpe hcl
      obtain ⟨wo, hwo⟩ : ∃ wo : World, wo = wr := ⟨_, rfl⟩
      subst hwo
      go_wp2
      go_loopw [10, 40] (fun cv i2 wr => ∃ k : Nat, k ≤ y.length ∧ i2 = .int .i64 k ∧ Hid (MulIn x y w wr w.heap.size 78 i k (.slice (some ⟨w.heap.size, 0, none⟩) (x.length + y.length) (x.length + y.length)) cv)) (fun _ i2 _ => y.length - (intOf i2).toNat)
      case atStart => exact ⟨0, Nat.zero_le _, rfl, _, 0, rfl, MulI.start HST.out, HROW2.out, HBEL.out⟩
      case round =>
        obtain ⟨k, hk, rfl, HI⟩ := hrel
        obtain ⟨d2, c, rfl, hst, hrow, hbel⟩ := HI.out
        have HST2 := hid hst
        have HROW3 := hid hrow
        have HBEL2 := hid hbel
        have hc0 := hst.lo
        have hc1 := hst.hi
        clear hst hrow hbel HI
        by_cases hlk : k < y.length
        · obtain ⟨g2, o2, rfl, hcs⟩ := C2.out (by omega)
          have hcy : wr.cell? ⟨g2, o2 + k, none⟩ = some (.int .u32 (y.getD k 0)) := Gr.cell HBEL2.out (hcs k hlk)
          have hq := HT2.out.lim.get k
          obtain ⟨q, hqe⟩ : ∃ q, q = y.getD k 0 := ⟨_, rfl⟩
          rw [← hqe] at hcy hq
          obtain ⟨hq0, hq1⟩ := hq
          have HQ := hid hqe
          have HCs := hid hcs
          clear hqe hcs
          obtain ⟨hd1, hd2⟩ := HROW3.out.cell (i + k) (by omega)
          have hD := HST2.out.lim.get (i + k)
          obtain ⟨D, hDe⟩ : ∃ D, D = d2.getD (i + k) 0 := ⟨_, rfl⟩
          rw [← hDe] at hd1 hD
          obtain ⟨hD0, hD1⟩ := hD
          have HD := hid hDe
          clear hDe
          obtain ⟨hm0, hm1⟩ := mul_bound hp0 hp1 hq0 hq1
          have HN := hid (HST2.out.next (t := c + (p * q + D)) HT1.out.lim HT2.out.lim hlt hlk (by rw [HP.out, HQ.out, HD.out]))
          go_wp2
          go_roundw
          case rel => exact ⟨k + 1, by omega, by go_num, _, _, rfl, HN.out, HROW3.out.set (i + k) _, HBEL2.out.setCell (by simp) _⟩
          case measure => simp [intOf]; omega
        · have hkl : k = y.length := by omega
          have HKL := hid hkl
          clear hkl
          have h1 := HST2.out
          rw [HKL.out] at h1
          have HN := hid (h1.done hlt)
          clear h1
          obtain ⟨hd1, hd2⟩ := HROW3.out.cell (i + y.length) (by omega)
          go_wp2
          go_roundw
          case rel => exact ⟨i + 1, by omega, by go_num, _, HN.out, HROW3.out.set (i + y.length) _, HBEL2.out.setCell (by simp) _⟩
          case measure => simp [intOf]; omega
    · have hkl : i = x.length := by omega
      have HKL := hid hkl
      clear hkl
      obtain ⟨A', c', hv', hr', ho'⟩ := HROW2.out.reads HST.out.lim
      have hlen : d.length = x.length + y.length := HST.out.len
      rw [hlen] at hv'
      injection hv' with hv1 _ hv3
      subst hv1; subst hv3
      have HR' : Hid (RdN wr (some ⟨w.heap.size, 0, none⟩) (x.length + y.length) d) := hr'
      have HO' := hid ho'
      have HLEN := hid hlen
      clear hr' ho' hlen
      go_wp2_with fail
      have htr := trim_c wr (some ⟨w.heap.size, 0, none⟩) (x.length + y.length) d HR'.out (by have := HLEN.out; omega)
      rw [HLEN.out] at htr
      refine htr.mono ?_
      rintro e w' ⟨rfl, rfl⟩
      have hval : val d = val xs * val ys := by
        have h1 := HST.out
        rw [HKL.out] at h1
        rw [h1.done, HX.out, HY.out, val_limbs, val_limbs]
      have hvn := VN.trim (L := L + K) HR'.out HO'.out (by have := HLEN.out; have := HLK.out; omega)
      rw [hval] at hvn
      rw [hval]
      have HVN := hid hvn
      clear hvn hval htr
      go_wp2
      go_ret
      exact ⟨_, rfl, HVN.out, HBEL.out⟩
end Go.Proofs.YtkbgdiejjabdmaaDoor
