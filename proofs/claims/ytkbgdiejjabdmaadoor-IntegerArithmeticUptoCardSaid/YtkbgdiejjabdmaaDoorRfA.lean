/- The walks of the reference's Norm, Of, limb, Cmp, Add and Sub, as numbers. -/
import Derived.Test.YtkbgdiejjabdmaaDoorNatC2
import Derived.Test.YtkbgdiejjabdmaaDoorCopyR
namespace Go.Proofs.YtkbgdiejjabdmaaDoor
open Go.RowKit

set_option maxHeartbeats 1000000 in
theorem xnorm_c (w : World) (v : Value) (n L : Nat) (h : AN w v n L) (hL : L ≤ 1099511627776) :
    Calls Tryd.prog 31 #[v] w (Ret w fun v w' => VN w' w.heap.size v n L) := by
  obtain ⟨A, c, xs, rfl, hr, rfl, hlen⟩ := h
  have HR := hid hr
  have HVL := hid (Nat.le_trans (limbs_val_le hr.lim) hlen)
  obtain ⟨n, hn⟩ : ∃ n, n = xs.length := ⟨_, rfl⟩
  have hLn : n ≤ 1099511627776 := by omega
  rw [← hn]
  have HN := hid hn
  clear hr hlen hn hL
  go_enter Tryd.func31, Tryd.ntmps31
  go_wp2
  go_loop [3] (fun i => ∃ k : Nat, k ≤ n ∧ i = .int .i64 k ∧ Hid (∀ i, k ≤ i → i < n → xs.getD i 0 = 0))
    (fun i => (intOf i).toNat)
  case atStart => exact ⟨n, Nat.le_refl _, rfl, fun i h1 h2 => by omega⟩
  case round =>
    obtain ⟨k, hk, rfl, HZ⟩ := hrel
    by_cases hk0 : 0 < k
    · obtain ⟨g, o, rfl, hc⟩ := HR.out.cells (by rw [← HN.out]; omega)
      have hcx : w.cell? ⟨g, o + (k - 1), none⟩ = some (.int .u32 (xs.getD (k - 1) 0)) := hc _ (by rw [← HN.out]; omega)
      have HC := hid hc
      clear hc
      by_cases hz : xs.getD (k - 1) 0 = 0
      · have hzb : (xs[k - 1]?.getD 0 == 0) = true := by rw [beq_iff_eq, ← List.getD_eq_getElem?_getD]; exact hz
        have HZ0 := hid hz
        clear hz
        go_wp2
        refine ⟨⟨k - 1, by omega, by go_num, fun i h1 h2 => ?_⟩, by simp [intOf]; omega⟩
        by_cases hik : i = k - 1
        · subst hik; exact HZ0.out
        · exact HZ.out i (by omega) h2
      · have hzb : (xs[k - 1]?.getD 0 == 0) = false := by rw [beq_eq_false_iff_ne, ← List.getD_eq_getElem?_getD]; exact hz
        have htk := limbs_of_cut HR.out.lim (by rw [← HN.out]; exact hk) (by rw [← HN.out]; exact HZ.out) (.inr hz)
        have HTK := hid htk
        clear hz htk
        go_wp2_with (at_make; refine make_full (w0 := w) rfl (.tmp 19) (.tmp 19) 24 78 w.heap.size rfl Tryd.underlying24 Tryd.info_u32 .i64 .i64 _ _ k rfl rfl rfl rfl (by omega) (Nat.le_refl _) (Below.refl _ _) ?_)
        intro w1 hrow hbel _ hgr
        have HROW := hid hrow
        have HB0 := hid hbel
        have HR1 := hid (HR.out.gr hgr)
        clear hrow hbel hgr
        go_wp2_with (refine copy_row (w0 := w) rfl (.tmp 21) (.tmp 22) 24 24 78 w.heap.size rfl Tryd.underlying24 Tryd.info_u32 w.heap.size k _ xs _ c n HN.out rfl rfl HROW.out HR1.out (by have := HN.out; omega) HB0.out ?_)
        intro w2 hrow hbel
        rw [HTK.out] at hrow
        have HROW2 := hid hrow
        have HB2 := hid hbel
        clear hrow hbel
        go_wp2
        go_ret
        exact ⟨_, rfl, VN.of_row rfl HROW2.out HVL.out, HB2.out⟩
    · obtain rfl : k = 0 := by omega
      have htk := limbs_of_cut (k := 0) HR.out.lim (by omega) (by rw [← HN.out]; exact HZ.out) (.inl rfl)
      have HTK : Hid (([] : List Int) = limbs (val xs)) := by rw [List.take_zero] at htk; exact htk
      clear htk
      go_wp2_with (at_make; refine make_full (w0 := w) rfl (.tmp 19) (.tmp 19) 24 78 w.heap.size rfl Tryd.underlying24 Tryd.info_u32 .i64 .i64 _ _ 0 rfl rfl rfl rfl (by omega) (Nat.le_refl _) (Below.refl _ _) ?_)
      intro w1 hrow hbel _ hgr
      have HROW := hid hrow
      have HB0 := hid hbel
      have HR1 := hid (HR.out.gr hgr)
      clear hrow hbel hgr
      go_wp2_with (refine copy_row (w0 := w) rfl (.tmp 21) (.tmp 22) 24 24 78 w.heap.size rfl Tryd.underlying24 Tryd.info_u32 w.heap.size 0 _ xs _ c n HN.out rfl rfl HROW.out HR1.out (by have := HN.out; omega) HB0.out ?_)
      intro w2 hrow hbel
      rw [HTK.out] at hrow
      have HROW2 := hid hrow
      have HB2 := hid hbel
      clear hrow hbel
      go_wp2
      go_ret
      exact ⟨_, rfl, VN.of_row rfl HROW2.out HVL.out, HB2.out⟩


set_option maxHeartbeats 400000 in
theorem xof_c (w : World) (n : Int) (h0 : 0 ≤ n) (h1 : n < 18446744073709551616) :
    Calls Tryd.prog 29 #[.int .u64 n] w (Ret w fun v w' => VN w' w.heap.size v n.toNat 2) := by
  have hb := heap_alloc_new w (.cells #[.int .u32 (n % 4294967296), .int .u32 (n / 4294967296 % 4294967296)] 78)
  have hr : RdN (w.alloc (.cells #[.int .u32 (n % 4294967296), .int .u32 (n / 4294967296 % 4294967296)] 78)) (some ⟨w.heap.size, 0, none⟩) 2 [n % 4294967296, n / 4294967296 % 4294967296] :=
    RdN.of_block hb (Of_lims n) (Nat.le_refl _) (fun j hj => by
      match j, hj with
      | 0, _ => rfl
      | 1, _ => rfl)
  have HA : Hid (AN (w.alloc (.cells #[.int .u32 (n % 4294967296), .int .u32 (n / 4294967296 % 4294967296)] 78)) (.slice (some ⟨w.heap.size, 0, none⟩) 2 2) n.toNat 2) :=
    ⟨_, _, _, rfl, hr, by simp only [val]; omega, by simp⟩
  have H1 := hid h1
  clear hr hb h1
  go_enter Tryd.func29, Tryd.ntmps29
  go_wp2_with fail
  refine (xnorm_c _ _ n.toNat 2 HA.out (by decide)).mono ?_
  rintro e w' ⟨v, rfl, hv, hg⟩
  have HV := hid (hv.base (b' := w.heap.size) (by simp))
  have HG := hid (gr_alloc_of hg)
  clear hv hg
  go_wp2
  go_ret
  exact ⟨_, rfl, HV.out, HG.out⟩

set_option maxHeartbeats 400000 in
theorem xlimb_c (w : World) (A : Option Addr) (c n k : Nat) (xs : List Int) (h : RdN w A c xs) (hn : n = xs.length) (hL : n ≤ 1099511627776) (hk : k ≤ 4398046511104) :
    Calls Tryd.prog 96 #[.slice A n c, .int .i64 k] w fun e w' => e = .returned (.int .u64 (xs.getD k 0)) ∧ w = w' := by
  have HN := hid hn
  have hx := h.lim.get k
  by_cases hlt : k < n
  · obtain ⟨g, o, rfl, hc⟩ := h.cells (by omega)
    have hcx : w.cell? ⟨g, o + k, none⟩ = some (.int .u32 (xs.getD k 0)) := hc k (by omega)
    obtain ⟨p, hp⟩ : ∃ p, p = xs.getD k 0 := ⟨_, rfl⟩
    rw [← hp] at hcx hx ⊢
    obtain ⟨hp0, hp1⟩ := hx
    clear hc h hp hn
    go_enter Tryd.func96, Tryd.ntmps96
    go_wp2
    go_ret
    exact ⟨rfl, rfl⟩
  · have hz : xs.getD k 0 = 0 := getD_high (by omega)
    rw [hz]
    clear h hx hz hn
    go_enter Tryd.func96, Tryd.ntmps96
    go_wp2
    go_ret
    exact ⟨rfl, rfl⟩

theorem cmpN_lt {m n : Nat} (h : m < n) : cmpN m n = -1 := by unfold cmpN; rw [if_pos h]
theorem cmpN_gt {m n : Nat} (h : n < m) : cmpN m n = 1 := by unfold cmpN; rw [if_neg (by omega), if_pos h]
theorem cmpN_eq {m n : Nat} (h : m = n) : cmpN m n = 0 := by subst h; unfold cmpN; simp
theorem limbU {x : List Int} (h : Lim x) (k : Nat) : ∃ p, p = x.getD k 0 ∧ 0 ≤ p ∧ p ≤ 4294967295 := ⟨_, rfl, h.get k⟩

set_option maxHeartbeats 1000000 in
theorem xcmp_c (w : World) (v1 v2 : Value) (m n L : Nat) (h1 : AN w v1 m L) (h2 : AN w v2 n L) (hL : L ≤ 1099511627776) :
    Calls Tryd.prog 26 #[v1, v2] w (Is w (.int .i64 (cmpN m n))) := by
  obtain ⟨A1, c1, x, rfl, hr1, rfl, hl1⟩ := h1
  obtain ⟨A2, c2, y, rfl, hr2, rfl, hl2⟩ := h2
  have R1 := hid hr1
  have R2 := hid hr2
  obtain ⟨a, ha⟩ : ∃ a, a = x.length := ⟨_, rfl⟩
  obtain ⟨b, hb⟩ : ∃ b, b = y.length := ⟨_, rfl⟩
  have ha1 : a ≤ 1099511627776 := by omega
  have hb1 : b ≤ 1099511627776 := by omega
  rw [← ha, ← hb]
  obtain ⟨N, hN⟩ : ∃ N, N = max a b := ⟨_, rfl⟩
  have hNI : max (a : Int) (b : Int) = (N : Int) := by omega
  have hN1 : a ≤ N ∧ b ≤ N ∧ N ≤ 1099511627776 := by omega
  have HA := hid ha
  have HB := hid hb
  have HLX : Hid (∀ k : Nat, k ≤ 4398046511104 → Calls Tryd.prog 96 #[.slice A1 a c1, .int .i64 k] w fun e w' => e = .returned (.int .u64 (x.getD k 0)) ∧ w = w') := fun k hk => xlimb_c w A1 c1 a k x R1.out HA.out ha1 hk
  have HLY : Hid (∀ k : Nat, k ≤ 4398046511104 → Calls Tryd.prog 96 #[.slice A2 b c2, .int .i64 k] w fun e w' => e = .returned (.int .u64 (y.getD k 0)) ∧ w = w') := fun k hk => xlimb_c w A2 c2 b k y R2.out HB.out hb1 hk
  clear hr1 hr2 hl1 hl2 hL ha hb hN
  obtain ⟨hNa, hNb, hNc⟩ := hN1
  go_enter Tryd.func26, Tryd.ntmps26
  go_wp2
  go_loop [5] (fun i => ∃ k : Nat, k ≤ N ∧ i = .int .i64 ((k : Int) - 1) ∧ Hid (∀ j, k ≤ j → x.getD j 0 = y.getD j 0)) (fun i => (intOf i + 1).toNat)
  case atStart => exact ⟨N, Nat.le_refl _, rfl, fun j h1 => by rw [getD_high (by have := HA.out; omega), getD_high (by have := HB.out; omega)]⟩
  case round =>
    obtain ⟨k, hk, rfl, HS⟩ := hrel
    by_cases hk0 : 0 < k
    · obtain ⟨j, rfl⟩ : ∃ j, k = j + 1 := ⟨k - 1, by omega⟩
      have e : ((j + 1 : Nat) : Int) - 1 = (j : Int) := by omega
      rw [e]
      clear e hk0
      obtain ⟨p, hp, hp0, hp1⟩ := limbU R1.out.lim j
      obtain ⟨q, hq, hq0, hq1⟩ := limbU R2.out.lim j
      have HP := hid hp
      have HQ := hid hq
      clear hp hq
      have hj0 : (0 : Int) ≤ j := by omega
      go_wp2_with fail
      refine (HLX.out j (by omega)).mono ?_
      rw [← HP.out]
      rintro e w' ⟨rfl, rfl⟩
      go_wp2_with fail
      refine (HLY.out j (by omega)).mono ?_
      rw [← HQ.out]
      rintro e w' ⟨rfl, rfl⟩
      by_cases hpq : p < q
      · have hr : cmpN (val x) (val y) = -1 := cmpN_lt (val_lt_getD R1.out.lim R2.out.lim (by have := HA.out; omega) (by have := HB.out; omega) (i := j) (n := N) (by omega) (fun i h1 => HS.out i (by omega)) (by rw [← HP.out, ← HQ.out]; exact hpq))
        have HR := hid hr
        clear hr
        go_wp2
        go_ret
        exact ⟨by rw [HR.out]; rfl, Gr.refl _⟩
      by_cases hqp : q < p
      · have hr : cmpN (val x) (val y) = 1 := cmpN_gt (val_lt_getD R2.out.lim R1.out.lim (by have := HB.out; omega) (by have := HA.out; omega) (i := j) (n := N) (by omega) (fun i h1 => (HS.out i (by omega)).symm) (by rw [← HP.out, ← HQ.out]; exact hqp))
        have HR := hid hr
        clear hr
        go_wp2
        go_ret
        exact ⟨by rw [HR.out]; rfl, Gr.refl _⟩
      · go_wp2
        refine ⟨⟨j, by omega, by go_num, fun i h1 => ?_⟩, by first | (simp [intOf]; done) | (simp [intOf]; omega)⟩
        by_cases hij : i = j
        · subst hij; rw [← HP.out, ← HQ.out]; omega
        · exact HS.out i (by omega)
    · obtain rfl : k = 0 := by omega
      have hr : cmpN (val x) (val y) = 0 := cmpN_eq (val_eq_getD (fun j => HS.out j (by omega)))
      have HR := hid hr
      clear hr
      go_wp2
      go_ret
      exact ⟨by rw [HR.out]; rfl, Gr.refl _⟩
end Go.Proofs.YtkbgdiejjabdmaaDoor
