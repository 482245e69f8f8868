/- The walks of nat.divSmall, shiftUp and shiftDown, as numbers. -/
import Derived.Test.YtkbgdiejjabdmaaDoorNatD
import Derived.Test.YtkbgdiejjabdmaaDoorPl
namespace Go.Proofs.YtkbgdiejjabdmaaDoor
open Go.RowKit

def DsIn (a : List Int) (d0 : Int) (w wr : World) (base : Nat) (e : TypeId) (k : Nat) (v rv : Value) : Prop := ∃ q r, rv = .int .u64 r ∧ DivS a d0 k q r ∧ Row wr base e v q ∧ Below base w wr

/-- A row's trimmed cut, handed back. -/
theorem VN.of_trim {w : World} {b g N L : Nat} {e : TypeId} {d : List Int} {n : Nat} (h : Row w b e (.slice (some ⟨g, 0, none⟩) N N) d) (hl : Lim d) (hv : val d = n) (hL : N ≤ L) : VN w b (.slice (some ⟨g, 0, none⟩) (limbs n).length (limbs n).length) n L := by
  subst hv
  obtain ⟨hlen, _⟩ := h.form
  obtain ⟨A', c', hv', hr', ho'⟩ := h.reads hl
  rw [hlen] at hv'
  injection hv' with hv1 _ hv3
  subst hv1; subst hv3
  exact VN.trim hr' ho' (by omega)
theorem Row.rd {w : World} {b g N : Nat} {e : TypeId} {d : List Int} (h : Row w b e (.slice (some ⟨g, 0, none⟩) N N) d) (hl : Lim d) : d.length = N ∧ RdN w (some ⟨g, 0, none⟩) N d := by
  obtain ⟨hlen, _⟩ := h.form
  obtain ⟨A', c', hv', hr', ho'⟩ := h.reads hl
  rw [hlen] at hv'
  injection hv' with hv1 _ hv3
  subst hv1; subst hv3
  exact ⟨hlen, hr'⟩
theorem trim_row (w : World) {b g N : Nat} {e : TypeId} {d : List Int} {n : Nat} (h : Row w b e (.slice (some ⟨g, 0, none⟩) N N) d) (hl : Lim d) (hv : val d = n) (hN : N ≤ 4398046511104) :
    Calls Tryd.prog 95 #[.slice (some ⟨g, 0, none⟩) N N] w fun e' w' => e' = .returned (.slice (some ⟨g, 0, none⟩) (limbs n).length (limbs n).length) ∧ w = w' := by
  obtain ⟨hlen, hr⟩ := h.rd hl
  have := trim_c w _ N d hr (by omega)
  rw [hlen, hv] at this
  exact this

set_option maxHeartbeats 4000000 in
theorem divSmall_c (w : World) (v1 : Value) (n L : Nat) (d0 : Int) (h1 : AN w v1 n L) (hL : L ≤ 1099511627776) (hd0 : 0 < d0) (hd1 : d0 ≤ 4294967295) :
    Calls Tryd.prog 98 #[v1, .int .u32 d0] w fun e w' => RetV w (fun u v w' => VN w' w.heap.size u (n / d0.toNat) L ∧ v = .int .u32 (n % d0.toNat : Nat)) e w' := by
  obtain ⟨A1, c1, x, rfl, hr1, rfl, hl1⟩ := h1
  have b1 : x.length ≤ 1099511627776 := by omega
  have R1 := hid hr1
  have C1 := hid hr1.cells
  have HL := hid (show x.length ≤ L by omega)
  clear hr1 hl1 hL
  go_enter Tryd.func98, Tryd.ntmps98
  go_wp2_with (at_make; refine make_full (w0 := w) rfl (.tmp 10) (.tmp 10) 24 78 w.heap.size rfl Tryd.underlying24 Tryd.info_u32 .i64 .i64 _ _ x.length rfl rfl rfl rfl (by omega) (Nat.le_refl _) (Below.refl _ _) ?_)
  intro w2 hrow hbel _ _
  have HB0 := hid hbel
  have HROW := hid hrow
  clear hrow hbel
  go_wp2
  go_loopw [7, 8] (fun rv i wr => ∃ k : Nat, k ≤ x.length ∧ i = .int .i64 ((k : Int) - 1) ∧ Hid (DsIn x d0 w wr w.heap.size 78 k (.slice (some ⟨w.heap.size, 0, none⟩) x.length x.length) rv)) (fun _ i _ => (intOf i + 1).toNat)
  case atStart => exact ⟨x.length, Nat.le_refl _, rfl, _, 0, rfl, DivS.start x hd0, HROW.out, HB0.out⟩
  case round =>
    obtain ⟨k, hk, rfl, HI⟩ := hrel
    obtain ⟨Q, r, rfl, hst, hrow, hbel⟩ := HI.out
    have HST := hid hst
    have HROW2 := hid hrow
    have HBEL := hid hbel
    have hr0 := hst.lo
    have hr1 := hst.hi
    clear hst hrow hbel HI
    by_cases hk0 : 0 < k
    · obtain ⟨m, rfl⟩ : ∃ m, k = m + 1 := ⟨k - 1, by omega⟩
      obtain ⟨g1, o1, rfl, hcl⟩ := C1.out (by omega)
      have hcx : wr.cell? ⟨g1, o1 + m, none⟩ = some (.int .u32 (x.getD m 0)) := Gr.cell HBEL.out (hcl m (by omega))
      have hp := R1.out.lim.get m
      obtain ⟨p, hpe⟩ : ∃ p, p = x.getD m 0 := ⟨_, rfl⟩
      rw [← hpe] at hcx hp
      obtain ⟨hp0, hp1⟩ := hp
      have HP := hid hpe
      have HCl := hid hcl
      clear hpe hcl
      obtain ⟨hd1', hd2'⟩ := HROW2.out.cell m (by omega)
      have HN := hid (HST.out.next (t := r * 4294967296 + p) R1.out.lim (by omega) (by omega) (by rw [HP.out]))
      have hor := or_low (r * 4294967296) p (by omega) (by omega) (by omega) hp0 (by omega)
      have hq0 : 0 ≤ (r * 4294967296 + p) / d0 := Int.ediv_nonneg (by omega) (by omega)
      have hq1 : (r * 4294967296 + p) / d0 < 4294967296 := by rw [Int.ediv_lt_iff_lt_mul hd0]; omega
      go_wp2
      refine ⟨⟨m, by omega, by go_num, _, _, rfl, HN.out, HROW2.out.set m _, HBEL.out.setCell (by simp) _⟩, by simp [intOf]⟩
    · obtain rfl : k = 0 := by omega
      have HV := hid HST.out.done
      have HT := hid (trim_row wr HROW2.out HST.out.lim HV.out.1 (by omega))
      have HVN := hid (VN.of_trim HROW2.out HST.out.lim HV.out.1 HL.out)
      go_wp2_with fail
      refine HT.out.mono ?_
      rintro e w' ⟨rfl, rfl⟩
      go_wp2
      go_ret2
      have hr : r % 4294967296 = (val x % d0.toNat : Nat) := by
        have := HV.out.2
        omega
      first
        | exact ⟨_, _, rfl, ⟨HVN.out, by rw [← hr]; rfl⟩, HBEL.out⟩
        | exact ⟨_, _, rfl, ⟨HVN.out, by rw [← hr]; simp; omega⟩, HBEL.out⟩

def SuIn (a : List Int) (s : Nat) (w wr : World) (base : Nat) (e : TypeId) (k : Nat) (v cv : Value) : Prop := ∃ d c, cv = .int .u64 c ∧ ShU a s k d c ∧ Row wr base e v d ∧ Below base w wr
/-- A row that is handed back, not trimmed: it begins its block. -/
def IsRow (w : World) (b : Nat) (e : TypeId) (v : Value) (N n : Nat) : Prop := ∃ g d, v = .slice (some ⟨g, 0, none⟩) N N ∧ Row w b e v d ∧ Lim d ∧ d.length = N ∧ val d = n

theorem or_shift {c p : Int} {s : Nat} (hs : s < 32) (hc0 : 0 ≤ c) (hc1 : c < 2 ^ s) (hp0 : 0 ≤ p) (hp1 : p ≤ 4294967295) : bits .or .u64 c (p * 2 ^ s) = c + p * 2 ^ s ∧ 0 ≤ p * 2 ^ s ∧ p * 2 ^ s < 9223372036854775808 ∧ c < 4294967296 := by
  obtain ⟨q, hq, hqi, q1, q2, _⟩ := pow_s hs
  have h1 : 0 ≤ p * (q : Int) := Int.mul_nonneg hp0 (by omega)
  have h2 : p * (q : Int) ≤ 4294967295 * q := Int.mul_le_mul_of_nonneg_right hp1 (by omega)
  rw [hqi] at hc1 ⊢
  refine ⟨?_, h1, by omega, by omega⟩
  rw [u64_or c _ hc0 (by omega) h1 (by omega), Nat.or_comm, nat_join s _ c.toNat ?_ (by rw [hq]; omega)]
  · omega
  · rw [hq, Int.toNat_mul hp0 (by omega)]
    simp

set_option maxHeartbeats 4000000 in
theorem shiftUp_c (w : World) (s : Nat) (A1 : Option Addr) (c1 : Nat) (x : List Int) (hr1 : RdN w A1 c1 x) (hL : x.length ≤ 1099511627776) (hs : s < 32) :
    Calls Tryd.prog 100 #[.slice A1 x.length c1, .int .u64 s] w (Ret w fun v w' => IsRow w' w.heap.size 78 v (x.length + 1) (val x * 2 ^ s)) := by
  have R1 := hid hr1
  have C1 := hid hr1.cells
  clear hr1
  have hlow := low32
  go_enter Tryd.func100, Tryd.ntmps100
  go_wp2_with (at_make; refine make_full (w0 := w) rfl (.tmp 11) (.tmp 11) 24 78 w.heap.size rfl Tryd.underlying24 Tryd.info_u32 .i64 .i64 _ _ (x.length + 1) rfl rfl (by omega) (by omega) (by omega) (Nat.le_refl _) (Below.refl _ _) ?_)
  intro w2 hrow hbel _ _
  have HB0 := hid hbel
  have HROW := hid hrow
  clear hrow hbel
  go_wp2
  go_loopw [6, 15] (fun cv i wr => ∃ k : Nat, k ≤ x.length ∧ i = .int .i64 k ∧ Hid (SuIn x s w wr w.heap.size 78 k (.slice (some ⟨w.heap.size, 0, none⟩) (x.length + 1) (x.length + 1)) cv)) (fun _ i _ => x.length - (intOf i).toNat)
  case atStart => exact ⟨0, Nat.zero_le _, rfl, _, 0, rfl, ShU.start x s, HROW.out, HB0.out⟩
  case round =>
    obtain ⟨k, hk, rfl, HI⟩ := hrel
    obtain ⟨d, c, rfl, hst, hrow, hbel⟩ := HI.out
    have HST := hid hst
    have HROW2 := hid hrow
    have HBEL := hid hbel
    have hc0 := hst.lo
    have HC1 := hid hst.hi
    clear hst hrow hbel HI
    by_cases hlt : k < x.length
    · obtain ⟨g1, o1, rfl, hcl⟩ := C1.out (by omega)
      have hcx : wr.cell? ⟨g1, o1 + k, none⟩ = some (.int .u32 (x.getD k 0)) := Gr.cell HBEL.out (hcl k hlt)
      have hp := R1.out.lim.get k
      obtain ⟨p, hpe⟩ : ∃ p, p = x.getD k 0 := ⟨_, rfl⟩
      rw [← hpe] at hcx hp
      obtain ⟨hp0, hp1⟩ := hp
      have HP := hid hpe
      have HCl := hid hcl
      clear hpe hcl
      obtain ⟨hd1', hd2'⟩ := HROW2.out.cell k (by omega)
      have HN := hid (HST.out.next (t := c + p * 2 ^ s) R1.out.lim hs hlt (by rw [HP.out]))
      obtain ⟨hor, hm0, hm1, hc4⟩ := or_shift hs hc0 HC1.out hp0 hp1
      go_wp2
      refine ⟨⟨k + 1, by omega, by go_num, _, _, rfl, HN.out, HROW2.out.set k _, HBEL.out.setCell (by simp) _⟩, by simp [intOf]; omega⟩
    · have hkl : k = x.length := by omega
      have HKL := hid hkl
      clear hkl
      have h1 := HST.out
      rw [HKL.out] at h1
      have HD := hid (h1.done hs)
      clear h1
      obtain ⟨hd1', hd2'⟩ := HROW2.out.cell x.length (by omega)
      have hc4 : c < 4294967296 := by
        obtain ⟨q, hq, hqi, q1, q2, _⟩ := pow_s hs
        have := HC1.out
        rw [hqi] at this
        omega
      go_wp2
      go_ret
      exact ⟨_, rfl, ⟨_, _, rfl, HROW2.out.set x.length _, HD.out.2, by simp [HST.out.len], HD.out.1⟩, HBEL.out.setCell (by simp) _⟩

def SdIn (a : List Int) (s : Nat) (w wr : World) (base : Nat) (e : TypeId) (k : Nat) (v : Value) : Prop := ∃ d, ShD a s k d ∧ Row wr base e v d ∧ Below base w wr

set_option maxHeartbeats 4000000 in
theorem shiftDown_c (w : World) (s : Nat) (A1 : Option Addr) (c1 : Nat) (x : List Int) (hr1 : RdN w A1 c1 x) (hL : x.length ≤ 1099511627776) (hs : s < 32) :
    Calls Tryd.prog 104 #[.slice A1 x.length c1, .int .u64 s] w (Ret w fun v w' => VN w' w.heap.size v (val x / 2 ^ s) x.length) := by
  have R1 := hid hr1
  have C1 := hid hr1.cells
  clear hr1
  have hlow := low32
  go_enter Tryd.func104, Tryd.ntmps104
  go_wp2_with (at_make; refine make_full (w0 := w) rfl (.tmp 9) (.tmp 9) 24 78 w.heap.size rfl Tryd.underlying24 Tryd.info_u32 .i64 .i64 _ _ x.length rfl rfl rfl rfl (by omega) (Nat.le_refl _) (Below.refl _ _) ?_)
  intro w2 hrow hbel _ _
  have HB0 := hid hbel
  have HROW := hid hrow
  clear hrow hbel
  go_wp2
  go_loopw [13] (fun i wr => ∃ k : Nat, k ≤ x.length ∧ i = .int .i64 k ∧ Hid (SdIn x s w wr w.heap.size 78 k (.slice (some ⟨w.heap.size, 0, none⟩) x.length x.length))) (fun i _ => x.length - (intOf i).toNat)
  case atStart => exact ⟨0, Nat.zero_le _, rfl, _, ShD.start x s, HROW.out, HB0.out⟩
  case round =>
    obtain ⟨k, hk, rfl, HI⟩ := hrel
    obtain ⟨d, hst, hrow, hbel⟩ := HI.out
    have HST := hid hst
    have HROW2 := hid hrow
    have HBEL := hid hbel
    clear hst hrow hbel HI
    by_cases hlt : k < x.length
    · obtain ⟨g1, o1, rfl, hcl⟩ := C1.out (by omega)
      have hcx : wr.cell? ⟨g1, o1 + k, none⟩ = some (.int .u32 (x.getD k 0)) := Gr.cell HBEL.out (hcl k hlt)
      have hp := R1.out.lim.get k
      obtain ⟨p, hpe⟩ : ∃ p, p = x.getD k 0 := ⟨_, rfl⟩
      rw [← hpe] at hcx hp
      obtain ⟨hp0, hp1⟩ := hp
      have HP := hid hpe
      have HCl := hid hcl
      clear hpe hcl
      obtain ⟨hd1', hd2'⟩ := HROW2.out.cell k (by omega)
      by_cases hl2 : k + 1 < x.length
      · have hcy : wr.cell? ⟨g1, o1 + (k + 1), none⟩ = some (.int .u32 (x.getD (k + 1) 0)) := Gr.cell HBEL.out (HCl.out (k + 1) hl2)
        have hq := R1.out.lim.get (k + 1)
        obtain ⟨q, hqe⟩ : ∃ q, q = x.getD (k + 1) 0 := ⟨_, rfl⟩
        rw [← hqe] at hcy hq
        obtain ⟨hq0, hq1⟩ := hq
        have HQ := hid hqe
        clear hqe
        have hor := or_high (q * 4294967296) p (by omega) (by omega) (by omega) hp0 (by omega)
        have HN := hid (HST.out.next (t := (p + q * 4294967296) / 2 ^ s % 4294967296) R1.out.lim hs hlt (by rw [HP.out, HQ.out, Int.mul_comm]))
        have hi2 : (k : Int) + 1 < x.length := by omega
        have hi3 : 0 ≤ (k : Int) + 1 := by omega
        have hi4 : ((k : Int) + 1).toNat = k + 1 := by omega
        go_wp2
        refine ⟨⟨k + 1, by omega, by go_num, _, HN.out, HROW2.out.set k _, HBEL.out.setCell (by simp) _⟩, by simp [intOf]; omega⟩
      · have hq : x.getD (k + 1) 0 = 0 := by rw [List.getD_eq_getElem?_getD, List.getElem?_eq_none (by omega)]; rfl
        have HN := hid (HST.out.next (t := p / 2 ^ s % 4294967296) R1.out.lim hs hlt (by rw [HP.out, hq, Int.mul_zero, Int.add_zero]))
        clear hq
        have hi2 : ¬ (k : Int) + 1 < x.length := by omega
        go_wp2
        refine ⟨⟨k + 1, by omega, by go_num, _, HN.out, HROW2.out.set k _, HBEL.out.setCell (by simp) _⟩, by simp [intOf]; omega⟩
    · have hkl : k = x.length := by omega
      have HKL := hid hkl
      clear hkl
      have h1 := HST.out
      rw [HKL.out] at h1
      have HT := hid (trim_row wr HROW2.out h1.lim h1.done (by omega))
      have HVN := hid (VN.of_trim HROW2.out h1.lim h1.done (Nat.le_refl _))
      clear h1
      go_wp2_with fail
      refine HT.out.mono ?_
      rintro e w' ⟨rfl, rfl⟩
      go_wp2
      go_ret
      exact ⟨_, rfl, HVN.out, HBEL.out⟩
end Go.Proofs.YtkbgdiejjabdmaaDoor
