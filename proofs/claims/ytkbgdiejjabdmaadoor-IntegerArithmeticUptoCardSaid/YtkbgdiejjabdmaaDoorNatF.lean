/- The walk of nat.guess, as numbers. -/
import Derived.Test.YtkbgdiejjabdmaaDoorNatE
import Derived.Test.YtkbgdiejjabdmaaDoorPl
namespace Go.Proofs.YtkbgdiejjabdmaaDoor
open Go.RowKit

set_option maxHeartbeats 4000000 in
theorem guess_c (w : World) (u2 u1 u0 v1 v0 : Int) (a0 : 0 ≤ u2) (a1 : u2 ≤ v1) (b0 : 0 ≤ u1) (b1 : u1 ≤ 4294967295) (c0 : 0 ≤ u0) (c1 : u0 ≤ 4294967295) (d0 : 2147483648 ≤ v1) (d1 : v1 ≤ 4294967295) (e0 : 0 ≤ v0) (e1 : v0 ≤ 4294967295) :
    Calls Tryd.prog 101 #[.int .u32 u2, .int .u32 u1, .int .u32 u0, .int .u32 v1, .int .u32 v0] w (Ret w fun v _ => ∃ d, v = .int .u64 d ∧ GuE (u2 * 4294967296 + u1) v1 v0 u0 d) := by
  have hor := or_low (u2 * 4294967296) u1 (by omega) (by omega) (by omega) b0 (by omega)
  obtain ⟨h, hh⟩ : ∃ h, h = u2 * 4294967296 + u1 := ⟨_, rfl⟩
  obtain ⟨hst, hr1⟩ := GuS.start (h := h) d0 d1 e0 e1 c0 c1 (by omega) (by omega)
  have HST := hid hst
  have HR1 := hid hr1
  have HH := hid hh
  have hq0 : 0 ≤ h / v1 := hst.dlo
  have hr0 : 0 ≤ h % v1 := hst.rlo
  rw [← hh] at hor ⊢
  have h0 : 0 ≤ h := by omega
  have h1 : h < 18446744073709551616 := by omega
  clear hst hr1 hh
  go_enter Tryd.func101, Tryd.ntmps101
  go_wp2
  go_loop [12, 13] (fun dv rv => ∃ d r : Int, dv = .int .u64 d ∧ rv = .int .u64 r ∧ Hid (GuS h v1 v0 u0 d r) ∧ 0 ≤ r ∧ r ≤ 4294967295) (fun _ rv => (4294967296 - intOf rv).toNat)
  case atStart => exact ⟨_, _, rfl, rfl, HST.out, hr0, HR1.out⟩
  case round =>
    obtain ⟨d, r, rfl, rfl, HS, hr0', hr1'⟩ := hrel
    have hd0 := HS.out.dlo
    have hd1 := HS.out.dle
    by_cases hbig : 4294967295 < d
    · have HT : Hid (4294967295 < d ∨ r * 4294967296 + u0 < d * v0) := .inl hbig
      by_cases hbk : 4294967295 < r + v1
      · have HE := hid (HS.out.brk HT.out hbk)
        have hn0 := HE.out.lo
        go_wp2
        go_ret
        exact ⟨_, rfl, ⟨_, rfl, HE.out⟩, Gr.refl _⟩
      · have HN := hid (HS.out.next HT.out)
        have hn0 := HN.out.dlo
        go_wp2
        refine ⟨⟨d - 1, r + v1, rfl, rfl, HN.out, by omega, by omega⟩, by simp [intOf]; omega⟩
    · have hdl : d ≤ 4294967295 := by omega
      obtain ⟨hm0, hm1⟩ := mul_bound hd0 hdl e0 e1
      have hor2 := or_low (r * 4294967296) u0 (by omega) (by omega) (by omega) c0 (by omega)
      by_cases htest : r * 4294967296 + u0 < d * v0
      · have HT : Hid (4294967295 < d ∨ r * 4294967296 + u0 < d * v0) := .inr htest
        by_cases hbk : 4294967295 < r + v1
        · have HE := hid (HS.out.brk HT.out hbk)
          have hn0 := HE.out.lo
          go_wp2
          go_ret
          exact ⟨_, rfl, ⟨_, rfl, HE.out⟩, Gr.refl _⟩
        · have HN := hid (HS.out.next HT.out)
          have hn0 := HN.out.dlo
          go_wp2
          refine ⟨⟨d - 1, r + v1, rfl, rfl, HN.out, by omega, by omega⟩, by simp [intOf]; omega⟩
      · have HE := hid (HS.out.fin hdl (by omega))
        go_wp2
        go_ret
        exact ⟨_, rfl, ⟨_, rfl, HE.out⟩, Gr.refl _⟩
end Go.Proofs.YtkbgdiejjabdmaaDoor
