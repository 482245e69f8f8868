/- The walks of nat.scale and nat.Parse, as numbers. -/
import Derived.Test.YtkbgdiejjabdmaaDoorNatJ
import Derived.Test.YtkbgdiejjabdmaaDoorPl
namespace Go.Proofs.YtkbgdiejjabdmaaDoor
open Go.RowKit

def ScIn (x : List Int) (b p : Int) (w wr : World) (base : Nat) (e : TypeId) (k : Nat) (v cv : Value) : Prop :=
  ∃ xs c, cv = .int .u64 c ∧ ScS x b p k xs c ∧ Row wr base e v xs ∧ Below base w wr

set_option maxHeartbeats 4000000 in
theorem scale_c (w : World) (v1 : Value) (n L b0 : Nat) (b p : Int) (h1 : VN w b0 v1 n L) (hL : L ≤ 1099511627776) (hb0 : 1 ≤ b) (hb1 : b ≤ 4294967295) (hp0 : 0 ≤ p) (hp1 : p ≤ 4294967295) :
    Calls Tryd.prog 108 #[v1, .int .u32 b, .int .u32 p] w (Ret w fun v w' => VN w' w.heap.size v (n * b.toNat + p.toNat) (L + 1)) := by
  obtain ⟨A1, c1, rfl, hr1, hl1, _⟩ := h1
  obtain ⟨x, hx⟩ : ∃ x, x = limbs n := ⟨_, rfl⟩
  rw [← hx] at hr1 hl1 ⊢
  have C1 := hid hr1.cells
  have R1 := hid hr1
  have HX := hid hx
  have bx : x.length ≤ 1099511627776 := by omega
  have HLX := hid hl1
  have HV : ∀ (w' : World) (v : Value) {zs : List Int}, zs = limbs (n * b.toNat + p.toNat) → zs.length ≤ L + 1 → Row w' w.heap.size 78 v zs → VN w' w.heap.size v (n * b.toNat + p.toNat) (L + 1) :=
    fun w' v zs hz hl hr => VN.of_row hz hr (by rw [← hz]; exact hl)
  have hlow := low32
  clear hr1 hl1 hx hL
  go_enter Tryd.func108, Tryd.ntmps108
  go_wp2_with (at_make; refine make_cap (w0 := w) rfl (.const (.int .i64 0)) (.tmp 13) 24 78 w.heap.size rfl Tryd.underlying24 Tryd.info_u32 .i64 .i64 _ (x.length + 1) rfl rfl (by omega) (by omega) (Nat.le_refl _) (Below.refl _ _) ?_)
  intro w1 hrow hbel hsz
  have HB0 := hid hbel
  have HROW := hid hrow
  have HSZ : w.heap.size ≤ w1.heap.size := by omega
  clear hrow hbel hsz
  go_wp2
  go_loopw [7, 8, 19] (fun v cv i wr => ∃ k : Nat, k ≤ x.length ∧ i = .int .i64 k ∧ Hid (ScIn x b p w wr w.heap.size 78 k v cv)) (fun _ _ i _ => x.length - (intOf i).toNat)
  case atStart => exact ⟨0, Nat.zero_le _, rfl, [], p, rfl, ScS.start _ _ hp0 hp1, HROW.out, HB0.out⟩
  case round =>
    obtain ⟨k, hk, rfl, HI⟩ := hrel
    obtain ⟨xs2, c, rfl, hst, hrow, hbel⟩ := HI.out
    have HST := hid hst
    have HROW2 := hid hrow
    have HBEL := hid hbel
    have hc0 := hst.lo
    have hc1 := hst.hi
    have hbs := hbel.size
    have HLEN := hid hst.len
    clear hst hrow hbel HI
    by_cases hlt : k < x.length
    · obtain ⟨g1, o1, rfl, hcl⟩ := C1.out (by omega)
      have hcx : wr.cell? ⟨g1, o1 + k, none⟩ = some (.int .u32 (x.getD k 0)) := Gr.cell HBEL.out (hcl k hlt)
      have hq := R1.out.lim.get k
      obtain ⟨q, hqe⟩ : ∃ q, q = x.getD k 0 := ⟨_, rfl⟩
      rw [← hqe] at hcx hq
      obtain ⟨hq0, hq1⟩ := hq
      have HQ := hid hqe
      clear hqe hcl
      obtain ⟨hm0, hm1⟩ := mul_bound hq0 hq1 (show 0 ≤ b by omega) hb1
      have HN := hid (HST.out.next (t := c + q * b) R1.out.lim (by omega) hb1 (by rw [HQ.out]))
      go_wp2_with (at_builtin; refine app_one (w0 := w) rfl (.tmp 30) (.tmp 34) 24 78 w.heap.size rfl Tryd.underlying24 Tryd.info_u32 _ xs2 _ rfl rfl HROW2.out (by have := HLEN.out; omega) (by omega) HBEL.out ?_)
      intro v2 w2 hrow2 hbel2
      have HR3 := hid hrow2
      have HB3 := hid hbel2
      clear hrow2 hbel2
      go_wp2
      go_roundw
      case rel => exact ⟨k + 1, by omega, by go_num, _, _, rfl, HN.out, HR3.out, HB3.out⟩
      case measure => simp [intOf]; omega
    · have hkl : k = x.length := by omega
      have HKL := hid hkl
      clear hkl
      by_cases hcp : 0 < c
      · go_wp2_with (at_builtin; refine app_one (w0 := w) rfl (.tmp 41) (.tmp 44) 24 78 w.heap.size rfl Tryd.underlying24 Tryd.info_u32 _ xs2 _ rfl rfl HROW2.out (by have := HLEN.out; omega) (by omega) HBEL.out ?_)
        intro v2 w2 hrow2 hbel2
        have HR3 := hid hrow2
        have HB3 := hid hbel2
        clear hrow2 hbel2
        go_wp2
        go_ret
        refine ⟨_, rfl, HV _ _ ?_ ?_ HR3.out, HB3.out⟩
        · have h1 := HST.out
          rw [HKL.out, HX.out] at h1
          first
            | exact h1.done1 hcp
            | (have h2 := h1.done1 hcp; rw [← h2]; congr 2; omega)
        · have := HLEN.out; have := HLX.out; simp; omega
      · have hc : c = 0 := by omega
        have HC0 := hid hc
        clear hc
        go_wp2
        go_ret
        refine ⟨_, rfl, HV _ _ ?_ ?_ HROW2.out, HBEL.out⟩
        · have h1 := HST.out
          rw [HKL.out, HX.out, HC0.out] at h1
          exact h1.done0 hb0
        · have := HLEN.out; have := HLX.out; omega
end Go.Proofs.YtkbgdiejjabdmaaDoor
