/- The walks of the reference's Shift and half, as numbers. -/
import Derived.Test.YtkbgdiejjabdmaaDoorRfC
import Derived.Test.YtkbgdiejjabdmaaDoorRes
import Derived.Deep.RegionHeld3
namespace Go.Proofs.YtkbgdiejjabdmaaDoor
open Go.RowKit

theorem or_sh {c p x : Int} {s : Nat} (hs : s < 32) (hc0 : 0 ≤ c) (hc1 : c < 2 ^ s) (hp0 : 0 ≤ p) (hx : x = p * 2 ^ s) : bits .or .u32 c (x % 4294967296) = c + x % 4294967296 := by
  obtain ⟨q, hq, hqi, q1, q2, r, hr, _⟩ := pow_s hs
  rw [hqi] at hc1 hx
  obtain ⟨y, hy⟩ := Int.eq_ofNat_of_zero_le hp0
  have hxn : x = ((y * q : Nat) : Int) := by rw [hx, hy, Int.natCast_mul]
  have hm : (x % 4294967296).toNat = y * q % 4294967296 := by rw [hxn]; omega
  have hz : y * q % 4294967296 % q = 0 := by
    rw [show 4294967296 = q * r from hr.symm, Nat.mod_mul_right_mod, Nat.mul_mod_left]
  rw [u32_or c _ hc0 (by omega) (by omega) (by omega), Nat.or_comm, nat_join s _ c.toNat (by rw [hm, hq]; exact hz) (by rw [hq]; omega)]
  omega

set_option maxHeartbeats 4000000 in
theorem xshift_c (w : World) (v1 : Value) (m L n : Nat) (h1 : AN w v1 m L) (hL : L ≤ 274877906944) (hn : n ≤ 8796093022208) :
    Calls Tryd.prog 106 #[v1, .int .i64 n] w (Ret w fun v w' => VN w' w.heap.size v (m * 2 ^ n) (L + n / 32 + 1)) := by
  obtain ⟨A1, c1, x, rfl, hr1, rfl, hl1⟩ := h1
  have R1 := hid hr1
  obtain ⟨a, ha⟩ : ∃ a, a = x.length := ⟨_, rfl⟩
  have ha1 : a ≤ 274877906944 := by omega
  rw [← ha]
  have HA := hid ha
  have HAL := hid (show a ≤ L by omega)
  have C1 := hid hr1.cells
  obtain ⟨o, ho⟩ : ∃ o, o = n / 32 := ⟨_, rfl⟩
  obtain ⟨s, hs⟩ : ∃ s, s = n % 32 := ⟨_, rfl⟩
  have hno : n = 32 * o + s := by omega
  have ho1 : o ≤ 274877906944 := by omega
  have hs1 : s < 32 := by omega
  have q1 : (n : Int).tdiv 32 = (o : Int) := by rw [Int.tdiv_eq_ediv_of_nonneg (by omega)]; omega
  have q2 : (n : Int).tmod 32 = (s : Int) := by rw [Int.tmod_eq_emod_of_nonneg (by omega)]; omega
  have q3 : (n : Int) / 32 = (o : Int) := by omega
  have q4 : (n : Int) % 32 = (s : Int) := by omega
  rw [← ho]
  have HNO := hid hno
  clear hr1 hl1 hL ha ho hs hno
  go_enter Tryd.func106, Tryd.ntmps106
  go_wp2_with (at_make; refine make_full (w0 := w) rfl (.tmp 13) (.tmp 13) 24 78 w.heap.size rfl Tryd.underlying24 Tryd.info_u32 .i64 .i64 _ _ (a + o + 1) rfl rfl (by omega) (by omega) (by omega) (Nat.le_refl _) (Below.refl _ _) ?_)
  intro w1 hrow hbel _ _
  have HROW := hid hrow
  have HB0 := hid hbel
  clear hrow hbel
  go_wp2
  go_loopw [6] (fun i wr => ∃ k : Nat, k ≤ a ∧ i = .int .i64 k ∧ ∃ d, Hid (ShR x o s k d) ∧ Hid (Row wr w.heap.size 78 (.slice (some ⟨w.heap.size, 0, none⟩) (a + o + 1) (a + o + 1)) d) ∧ Hid (Below w.heap.size w wr)) (fun i _ => a - (intOf i).toNat)
  case atStart => exact ⟨0, Nat.zero_le _, rfl, _, (by have h := ShR.start x o s; rw [← HA.out] at h; exact h), HROW.out, HB0.out⟩
  case round =>
    obtain ⟨k, hk, rfl, d, HST, HROW2, HBEL⟩ := hrel
    by_cases hlt : k < a
    · obtain ⟨g1, o1, rfl, hcl⟩ := C1.out (by have := HA.out; omega)
      obtain ⟨p, hp, hp0, hp1⟩ := limbU R1.out.lim k
      have hcx : wr.cell? ⟨g1, o1 + k, none⟩ = some (.int .u32 p) := by rw [hp]; exact Gr.cell HBEL.out (hcl k (by have := HA.out; omega))
      have HP := hid hp
      have HCL := hid hcl
      obtain ⟨D, hD, hD0, hD1⟩ := limbU HST.out.lim (k + o)
      obtain ⟨E, hE, hE0, hE1⟩ := limbU HST.out.lim (k + o + 1)
      obtain ⟨t, ht⟩ : ∃ t, t = p * 2 ^ s := ⟨_, rfl⟩
      have htop : D < 2 ^ s := by rw [hD]; exact HST.out.top
      have hor := or_sh hs1 hD0 htop hp0 ht
      have HN := hid (HST.out.next (x := t) (l := D + t % 4294967296) (m := t / 4294967296) R1.out.lim hs1 (by rw [← HA.out]; exact hlt) (by rw [ht, hp]) (by rw [hD]) rfl)
      have htb : 0 ≤ t ∧ t < 9223372036854775808 ∧ D + t % 4294967296 ≤ 4294967295 := by
        obtain ⟨q, hq, hqi, r1, r2, r, hr, _⟩ := pow_s hs1
        have hlim := HN.out.lim.get (k + o)
        rw [getD_set_ne' (by omega), getD_set_self (by rw [HST.out.len, ← HA.out]; omega)] at hlim
        rw [hqi] at ht
        have h1 : 0 ≤ p * (q : Int) := Int.mul_nonneg hp0 (by omega)
        have h2 : p * (q : Int) ≤ 4294967295 * q := Int.mul_le_mul_of_nonneg_right hp1 (by omega)
        omega
      obtain ⟨ht0, ht1, ht2⟩ := htb
      obtain ⟨hd1, hd2⟩ := HROW2.out.cell (k + o) (by omega)
      obtain ⟨he1, he2⟩ := HROW2.out.cell (k + o + 1) (by omega)
      rw [← hD] at hd1
      rw [← hE] at he1
      have HT := hid ht
      have hts : p * 2 ^ s = t := HT.out.symm
      clear hp hcl hD hE htop ht
      go_wp2
      refine ⟨⟨k + 1, by omega, by go_num, _, HN.out, (HROW2.out.set (k + o) _).set (k + o + 1) _, Below.setCell (HBEL.out.setCell (by simp) _) (by simp) _⟩, by first | (simp [intOf]; done) | (simp [intOf]; omega)⟩
    · have hkl : k = a := by omega
      subst hkl
      have HST2 : Hid (d.length = k + o + 1) := by have h := HST.out.len; rw [← HA.out] at h; exact h
      have HVAL : Hid (val d = val x * 2 ^ n) := by have h := HST.out; rw [HA.out] at h; have h2 := h.done; rw [← HNO.out] at h2; exact h2
      obtain ⟨A', c', hv', hr', ho'⟩ := HROW2.out.reads HST.out.lim
      have hlen : d.length = k + o + 1 := HST2.out
      rw [hlen] at hv'
      injection hv' with hv1 _ hv3
      subst hv1; subst hv3
      have HAN : Hid (AN wr (.slice (some ⟨w.heap.size, 0, none⟩) (k + o + 1) (k + o + 1)) (val x * 2 ^ n) (k + o + 1)) := ⟨_, _, d, by rw [hlen], hr', HVAL.out, by omega⟩
      clear hlen hr' ho'
      go_wp2_with fail
      refine (xnorm_c wr _ (val x * 2 ^ n) (k + o + 1) HAN.out (by omega)).mono ?_
      rintro e w5 ⟨v, rfl, hv, hg⟩
      have HV := hid ((hv.le (K := L + o + 1) (by have := HAL.out; omega)).base (b' := w.heap.size) HBEL.out.size)
      have HG := hid (Gr.trans HBEL.out hg)
      clear hv hg
      go_wp2
      go_ret
      exact ⟨_, rfl, HV.out, HG.out⟩


set_option maxRecDepth 100000 in
set_option maxHeartbeats 4000000 in
theorem xhalf_c (w : World) (v1 : Value) (m L : Nat) (h1 : AN w v1 m L) (hL : L ≤ 1099511627776) :
    Calls Tryd.prog 107 #[v1] w (Ret w fun v w' => VN w' w.heap.size v (m / 2) L) := by
  obtain ⟨A1, c1, x, rfl, hr1, rfl, hl1⟩ := h1
  have R1 := hid hr1
  obtain ⟨a, ha⟩ : ∃ a, a = x.length := ⟨_, rfl⟩
  have ha1 : a ≤ 1099511627776 := by omega
  rw [← ha]
  have HA := hid ha
  have HAL := hid (show a ≤ L by omega)
  have C1 := hid hr1.cells
  have HLX : Hid (∀ (V : World) (k : Nat), Gr w V → k ≤ 1099511627776 → Calls Tryd.prog 96 #[.slice A1 a c1, .int .i64 ((k : Int) + 1)] V fun e w' => e = .returned (.int .u64 (x.getD (k + 1) 0)) ∧ V = w') := fun V k hV hk => by
    have h := xlimb_c V A1 c1 a (k + 1) x (R1.out.gr hV) HA.out ha1 (by omega)
    rwa [Int.natCast_add] at h
  clear hr1 hl1 hL ha
  go_enter Tryd.func107, Tryd.ntmps107
  go_wp2_with (at_make; refine make_full (w0 := w) rfl (.tmp 6) (.tmp 6) 24 78 w.heap.size rfl Tryd.underlying24 Tryd.info_u32 .i64 .i64 _ _ (a) rfl rfl (by omega) (by omega) (by omega) (Nat.le_refl _) (Below.refl _ _) ?_)
  intro w1 hrow hbel _ _
  have HROW := hid hrow
  have HB0 := hid hbel
  clear hrow hbel
  go_wp2
  go_loopw [4] (fun i wr => ∃ k : Nat, k ≤ a ∧ i = .int .i64 k ∧ ∃ d, Hid (ShD x 1 k d) ∧ Hid (Row wr w.heap.size 78 (.slice (some ⟨w.heap.size, 0, none⟩) a a) d) ∧ Hid (Below w.heap.size w wr)) (fun i _ => a - (intOf i).toNat)
  case atStart => exact ⟨0, Nat.zero_le _, rfl, _, (by have h := ShD.start x 1; rw [← HA.out] at h; exact h), HROW.out, HB0.out⟩
  case round =>
    obtain ⟨k, hk, rfl, d, HST, HROW2, HBEL⟩ := hrel
    by_cases hlt : k < a
    · obtain ⟨g1, o1, rfl, hcl⟩ := C1.out (by have := HA.out; omega)
      obtain ⟨p, hp, hp0, hp1⟩ := limbU R1.out.lim k
      obtain ⟨q, hq, hq0, hq1⟩ := limbU R1.out.lim (k + 1)
      have hcx : wr.cell? ⟨g1, o1 + k, none⟩ = some (.int .u32 p) := by rw [hp]; exact Gr.cell HBEL.out (hcl k (by have := HA.out; omega))
      have hg1 : g1 ≠ w.heap.size := by
        have h := World.block_lt_of_cell? w ⟨g1, o1 + k, none⟩ (hcl k (by have := HA.out; omega))
        have h2 : g1 < w.heap.size := h
        omega
      have HCL := hid hcl
      obtain ⟨D, hD, hD0, hD1⟩ := limbU HST.out.lim k
      obtain ⟨hd1, hd2⟩ := HROW2.out.cell k hlt
      rw [← hD] at hd1
      have HN := hid (HST.out.next (t := (q * 4294967296 + p) / 2 % 4294967296) R1.out.lim (by decide) (by rw [← HA.out]; exact hlt) (by rw [hp, hq]; congr 1; congr 1; omega))
      have HQ := hid hq
      have hkw : IntKind.i64.wrap ((k : Int) + 1) = (k : Int) + 1 := IntWalk.i64_in _ (by omega)
      have hw1 : IntKind.u64.wrap p = p := IntWalk.u64_in _ (by omega)
      have hw2 : IntKind.u64.wrap (q * 4294967296) = q * 4294967296 := IntWalk.u64_in _ (by omega)
      have hw3 : IntKind.u64.wrap (q * 4294967296 + p) = q * 4294967296 + p := IntWalk.u64_in _ (by omega)
      have hw4 : IntKind.u64.wrap ((q * 4294967296 + p) / 2) = (q * 4294967296 + p) / 2 := IntWalk.u64_in _ (by omega)
      clear hp hq hcl hD
      go_wp2
      go_region_held3 (fun V => V.cell? ⟨g1, o1 + k, none⟩ = some (.int .u32 p))
        (first
          | exact hcx
          | exact set1 hg1 hcx)
        (first
          | (go_at_call 96; refine (HLX.out _ k HBEL.out.drew (by omega)).mono ?_; rw [← HQ.out]; rintro e w' ⟨rfl, rfl⟩))
      go_wp2
      refine ⟨⟨k + 1, by omega, by go_num, _, HN.out, (show Row (World.drew (wr.setCell _ _)) _ _ _ _ from HROW2.out.set k _), (HBEL.out.setCell (by simp) _).drew⟩, by first | (simp [intOf]; done) | (simp [intOf]; omega)⟩
    · have hkl : k = a := by omega
      subst hkl
      have HST2 : Hid (d.length = k) := by have h := HST.out.len; rw [← HA.out] at h; exact h
      have HVAL : Hid (val d = val x / 2) := by have h := HST.out; rw [HA.out] at h; have h2 := h.done; rwa [Nat.pow_one] at h2
      obtain ⟨A', c', hv', hr', ho'⟩ := HROW2.out.reads HST.out.lim
      have hlen : d.length = k := HST2.out
      rw [hlen] at hv'
      injection hv' with hv1 _ hv3
      subst hv1; subst hv3
      have HAN : Hid (AN wr (.slice (some ⟨w.heap.size, 0, none⟩) (k) (k)) (val x / 2) (k)) := ⟨_, _, d, by rw [hlen], hr', HVAL.out, by omega⟩
      clear hlen hr' ho'
      go_wp2_with fail
      refine (xnorm_c wr _ (val x / 2) (k) HAN.out (by omega)).mono ?_
      rintro e w5 ⟨v, rfl, hv, hg⟩
      have HV := hid ((hv.le (K := L) HAL.out).base (b' := w.heap.size) HBEL.out.size)
      have HG := hid (Gr.trans HBEL.out hg)
      clear hv hg
      go_wp2
      go_ret
      exact ⟨_, rfl, HV.out, HG.out⟩

end Go.Proofs.YtkbgdiejjabdmaaDoor
