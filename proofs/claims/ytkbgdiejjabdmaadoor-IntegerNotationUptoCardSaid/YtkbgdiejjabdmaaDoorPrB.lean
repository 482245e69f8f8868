/- The walk of the reference's Print: the decimal digits. -/
import Derived.Test.YtkbgdiejjabdmaaDoorPrA
import Derived.Test.YtkbgdiejjabdmaaDoorRfC
namespace Go.Proofs.YtkbgdiejjabdmaaDoor
open Go.RowKit

/-- The digits of n, k of them, the lowest first, as bytes. -/
def Dgs (n k : Nat) : List UInt8 := (List.range k).map fun i => UInt8.ofNat (48 + n / 10 ^ i % 10)
theorem Dgs.len (n k : Nat) : (Dgs n k).length = k := by simp [Dgs]
theorem Dgs.succ (n k : Nat) : Dgs n (k + 1) = Dgs n k ++ [UInt8.ofNat (48 + n / 10 ^ k % 10)] := by simp [Dgs, List.range_succ]
theorem Dgs.get {n k i : Nat} (h : i < k) : (Dgs n k).getD i 0 = UInt8.ofNat (48 + n / 10 ^ i % 10) := by
  rw [List.getD_eq_getElem?_getD, List.getElem?_eq_getElem (by rw [Dgs.len]; exact h)]
  simp [Dgs]
theorem div_step10 (n k : Nat) : n / 10 ^ (k + 1) = n / 10 ^ k / 10 := by rw [Nat.pow_succ, Nat.div_div_eq_div_mul]
theorem dgs_bound {n k L : Nat} (h : (limbs n).length ≤ L) (hk : n / 10 ^ k ≠ 0) : k + 1 ≤ 10 * L := by
  have h1 : 10 ^ k ≤ n := by
    rcases Nat.lt_or_ge n (10 ^ k) with h2 | h2
    · exact absurd (Nat.div_eq_of_lt h2) hk
    · exact h2
  have h2 := lt_pow_len h
  have h3 : (4294967296 : Nat) ^ L ≤ (10 ^ 10) ^ L := Nat.pow_le_pow_left (by decide) L
  rw [← Nat.pow_mul] at h3
  have h4 : (10 : Nat) ^ k < 10 ^ (10 * L) := Nat.lt_of_le_of_lt h1 (Nat.lt_of_lt_of_le h2 h3)
  exact (Nat.pow_lt_pow_iff_right (by decide)).1 h4
/-- The digits turned round are the numeral. -/
theorem dgs_dec {n k : Nat} (hk : 0 < k) (h1 : n / 10 ^ k = 0) (h2 : n / 10 ^ (k - 1) ≠ 0) (i : Nat) (hi : i < k) : (Lib.decDigits n).getD (k - 1 - i) 0 = (Dgs n k).getD i 0 := by
  have hp : 0 < 10 ^ k := Nat.pow_pos (by decide)
  have h3 : n < 10 ^ k := by
    rcases Nat.div_eq_zero_iff.1 h1 with h | h
    · omega
    · exact h
  have h4 : 10 ^ (k - 1) ≤ n := by
    rcases Nat.lt_or_ge n (10 ^ (k - 1)) with h5 | h5
    · exact absurd (Nat.div_eq_of_lt h5) h2
    · exact h5
  rw [dec_places hk h3 (.inr h4), Dgs.get hi, List.getD_eq_getElem?_getD, List.getElem?_eq_getElem (by simp; omega)]
  simp only [List.getElem_map, List.getElem_range, Option.getD_some]
  rw [show k - 1 - (k - 1 - i) = i by omega]
theorem dgs_len {n k : Nat} (hk : 0 < k) (h1 : n / 10 ^ k = 0) (h2 : n / 10 ^ (k - 1) ≠ 0) : (Lib.decDigits n).length = k := by
  have hp : 0 < 10 ^ k := Nat.pow_pos (by decide)
  have h3 : n < 10 ^ k := by
    rcases Nat.div_eq_zero_iff.1 h1 with h | h
    · omega
    · exact h
  have h4 : 10 ^ (k - 1) ≤ n := by
    rcases Nat.lt_or_ge n (10 ^ (k - 1)) with h5 | h5
    · exact absurd (Nat.div_eq_of_lt h5) h2
    · exact h5
  rw [dec_places hk h3 (.inr h4)]
  simp
theorem listb_eq_getD {x y : List UInt8} (hl : x.length = y.length) (h : ∀ j, j < x.length → x.getD j 0 = y.getD j 0) : x = y := by
  apply List.ext_getElem hl
  intro i h1 h2
  have := h i h1
  rwa [List.getD_eq_getElem?_getD, List.getD_eq_getElem?_getD, List.getElem?_eq_getElem h1, List.getElem?_eq_getElem h2] at this

def XrIn (n L : Nat) (w wr : World) (m : Nat) (v0 v3 : Value) : Prop :=
  ∃ k, m = n / 10 ^ k ∧ (∀ j, k = j + 1 → n / 10 ^ j ≠ 0) ∧ VN wr w.heap.size v0 m L ∧ RowB wr w.heap.size 5 v3 (Dgs n k) ∧ Gr w wr
/-- out's cells from l - i on are those of D. -/
def XrOut (D : List UInt8) (l : Nat) (Y wr : World) (g : Nat) (i : Nat) : Prop :=
  ∃ xs, xs.length = l ∧ (∀ j, l - i ≤ j → j < l → xs.getD j 0 = D.getD j 0) ∧ RowB wr Y.heap.size 5 (.slice (some ⟨g, 0, none⟩) l l) xs ∧ Gr Y wr

set_option maxRecDepth 100000 in
set_option maxHeartbeats 8000000 in
theorem xprint_c (w : World) (v1 : Value) (n L : Nat) (h1 : AN w v1 n L) (hL : L ≤ 1099511627776) :
    Calls Tryd.prog 48 #[v1] w (Is w (.string ⟨(Lib.decDigits n).toArray⟩)) := by
  have hln : (limbs n).length ≤ L := by
    obtain ⟨A, c, xs, rfl, hr, rfl, hl⟩ := h1
    exact Nat.le_trans (limbs_val_le hr.lim) hl
  have HLN := hid hln
  have HNM := hid (xnorm_c w v1 n L h1 hL)
  obtain ⟨A0, c0, xs0, hv0, _, _, _⟩ := h1
  subst hv0
  have HL := hid hL
  have HDS : Hid (∀ (V : World) (v : Value) (m : Nat), AN V v m L → Calls Tryd.prog 105 #[v, .int .u64 10] V (fun e w' => ∃ u, e = .returned (.tuple #[u, .int .u64 ((m % 10 : Nat) : Int)]) ∧ VN w' V.heap.size u (m / 10) L ∧ Gr V w')) := fun V v m h => xshort_c V v m L 10 h HL.out (by decide) (by decide)
  obtain ⟨D, hD⟩ : ∃ D, D = Lib.decDigits n := ⟨_, rfl⟩
  rw [← hD]
  have HD := hid hD
  clear hln hL hD
  go_enter Tryd.func48, Tryd.ntmps48
  go_wp2_with fail
  refine HNM.out.mono ?_
  rintro e w1 ⟨x, rfl, ⟨A, c, rfl, hr, hl, hown⟩, hg1⟩
  obtain ⟨ln, hlen⟩ : ∃ ln, ln = (limbs n).length := ⟨_, rfl⟩
  have HX : Hid (VN w1 w.heap.size (.slice A ln c) n L) := ⟨A, c, by rw [hlen], hr, hl, hown⟩
  have HG1 := hid hg1
  have hl0 : ln = 0 ↔ n = 0 := by
    rw [hlen]
    constructor
    · intro h
      have := limbs_nil.1 (List.eq_nil_of_length_eq_zero h); omega
    · intro h; rw [h, limbs_zero]; rfl
  have HL0 := hid hl0
  rw [← hlen] at hl ⊢
  have hll : (ln : Int) ≤ 1099511627776 := by have := HL.out; omega
  have HLL := hid hl
  clear hr hl hown hg1 hlen hl0 HNM
  by_cases hn0 : ln = 0
  · subst hn0
    have hz : n = 0 := HL0.out.1 rfl
    have hDD : D = [48] := by rw [HD.out, hz, dec_zero]
    have HDD := hid hDD
    clear hz hDD
    go_wp2
    go_ret
    exact ⟨by rw [HDD.out]; rfl, HG1.out⟩
  have hlb : ((ln : Int) == 0) = false := by rw [beq_eq_false_iff_ne]; omega
  have hw10 : IntKind.i64.wrap (10 * (ln : Int)) = 10 * (ln : Int) := IntWalk.i64_in _ (by omega)
  have hb1 : w.heap.size ≤ w1.heap.size := HG1.out.size
  go_wp2_with (at_make; refine makeb_cap (w0 := w) rfl (.const (.int .i64 0)) (.tmp 15) 94 5 w.heap.size rfl Tryd.underlying94 Tryd.info_u8 .i64 .i64 _ (10 * ln) rfl rfl (by omega) (by omega) hb1 HG1.out ?_)
  intro w2 hrow hbel _ hg2
  have HROW0 := hid hrow
  have HB0 := hid hbel
  have HX0 := hid (HX.out.gr hg2)
  clear hrow hbel hg2 hb1 hw10 hll hlb
  go_wp2
  go_loopg [0, 3] n (fun g v0 v3 wr => Hid (XrIn n L w wr g v0 v3))
  case atStart => exact ⟨0, by simp, fun j h => (by cases h), HX0.out, HROW0.out, HB0.out⟩
  case round =>
    obtain ⟨k, hm, hk, ⟨A, c, rfl, hr, hlen, hown⟩, hrow, hg⟩ := hrel.out
    have HM := hid hm
    have HK := hid hk
    have HX2 : Hid (VN wr w.heap.size (.slice A (limbs gk).length c) gk L) := ⟨A, c, rfl, hr, hlen, hown⟩
    have HROW := hid hrow
    have HG := hid hg
    clear hm hk hr hlen hown hrow hg hrel HX HG1 HX0 HROW0 HB0
    by_cases h0 : 0 < gk
    · have hpos : 0 < (limbs gk).length := by
        rcases Nat.eq_zero_or_pos (limbs gk).length with h | h
        · have := limbs_nil.1 (List.eq_nil_of_length_eq_zero h); omega
        · exact h
      have hgk : n / 10 ^ k ≠ 0 := by rw [← HM.out]; omega
      have HKB := hid (dgs_bound HLN.out hgk)
      have HGK := hid hgk
      clear hgk
      go_wp2_with fail
      refine (HDS.out wr _ gk HX2.out.an).mono ?_
      rintro e w3 ⟨q, rfl, hq, hg3⟩
      have hb3 : w.heap.size ≤ w3.heap.size := Nat.le_trans HG.out.size hg3.size
      have HQ := hid hq
      have HG3 := hid hg3
      have HGW := hid (HG.out.trans hg3)
      have HROW3 := hid (HROW.out.grow hg3)
      obtain ⟨r, hr⟩ : ∃ r, r = gk % 10 := ⟨_, rfl⟩
      rw [← hr]
      have hr10 : r < 10 := by rw [hr]; exact Nat.mod_lt _ (by decide)
      have HR := hid hr
      have hrz : (r : Int) < 10 := by omega
      have hcv : (48 + (r : Int)) = ((UInt8.ofNat (48 + r)).toNat : Int) := by rw [dg_toNat hr10]; omega
      have hcw : IntKind.u8.wrap (48 + (r : Int)) = 48 + (r : Int) := by
        have : IntKind.u8.wrap (48 + (r : Int)) = (48 + (r : Int)) % 256 := rfl
        omega
      obtain ⟨cb, hcb⟩ : ∃ cb, cb = UInt8.ofNat (48 + r) := ⟨_, rfl⟩
      rw [← hcb] at hcv
      have HCB := hid hcb
      have HCV := hid hcv
      have HR10 := hid hr10
      clear hq hg3 hr hr10 hcv hcb
      go_wp2_with (at_builtin; refine appb_one (w0 := w) rfl (.tmp 25) (.tmp 29) 94 5 w.heap.size rfl Tryd.underlying94 Tryd.info_u8 _ (Dgs n k) _ cb HCV.out rfl rfl HROW3.out (by rw [Dgs.len]; have := HKB.out; have := HL.out; omega) hb3 HGW.out ?_)
      intro v4 w4 hrow4 hbel4 hgb
      have HQ4 : Hid (VN w4 w.heap.size q (gk / 10) L) := ((HQ.out.gr (Gr.alloc _ _)).grownBy hgb (fun k' hk' => (HROW.out.blk_lt hk').2)).base HG.out.size
      have HROW4 : Hid (RowB w4 w.heap.size 5 v4 (Dgs n (k + 1))) := by
        show RowB _ _ _ _ _
        rw [Dgs.succ, ← HM.out, ← HR.out, ← HCB.out]; exact hrow4
      have HG4 := hid hbel4
      clear hrow4 hbel4 hgb hb3
      go_wp2
      go_roundg (gk / 10)
      case measure => omega
      case rel =>
        refine ⟨k + 1, by rw [div_step10, ← HM.out], fun j hj => ?_, HQ4.out, HROW4.out, HG4.out⟩
        obtain rfl : j = k := by omega
        exact HGK.out
    · obtain rfl : gk = 0 := by omega
      have hlen0 : (limbs 0).length = 0 := by rw [limbs_zero]; rfl
      rw [hlen0]
      have hk0 : k ≠ 0 := by
        intro h
        have h2 := HM.out
        rw [h, Nat.pow_zero, Nat.div_one] at h2
        exact hn0 (HL0.out.2 h2.symm)
      obtain ⟨k', hk'⟩ : ∃ k', k = k' + 1 := ⟨k - 1, by omega⟩
      have hlast := HK.out k' hk'
      have HKB := hid (dgs_bound HLN.out hlast)
      have hne : Dgs n k ≠ [] := fun h => by have := congrArg List.length h; rw [Dgs.len] at this; exact hk0 this
      obtain ⟨g4, c4, rfl⟩ := HROW.out.shape hne
      have hDl : D.length = k := by rw [HD.out]; exact dgs_len (by omega) HM.out.symm (by rw [hk', Nat.add_sub_cancel]; exact hlast)
      have hDg : ∀ i, i < k → D.getD (k - 1 - i) 0 = (Dgs n k).getD i 0 := fun i hi => by rw [HD.out]; exact dgs_dec (by omega) HM.out.symm (by rw [hk', Nat.add_sub_cancel]; exact hlast) i hi
      have HDL := hid hDl
      have HDG := hid hDg
      have hkL : (k : Int) ≤ 10995116277760 := by have := HKB.out; have := HL.out; omega
      rw [Dgs.len] at HROW ⊢
      have hkp : 0 < k := by omega
      have hbw : w.heap.size ≤ wr.heap.size := HG.out.size
      obtain ⟨X, hX⟩ : ∃ X : World, X = wr := ⟨_, rfl⟩
      subst hX
      clear hlen0 hk0 hk' hlast hne hDl hDg hn0
      go_wp2_with (at_make; refine makeb_full (w0 := X) rfl (.tmp 33) (.tmp 33) 94 5 X.heap.size rfl Tryd.underlying94 Tryd.info_u8 .i64 .i64 _ _ k rfl rfl rfl rfl (by omega) (Nat.le_refl _) (Below.refl _ _) ?_)
      intro w5 hrow5 hbel5 _ hg5
      have HR5 := hid hrow5
      have HG5 := hid hg5
      have HGW5 := hid (HG.out.trans hg5)
      clear hrow5 hbel5 hg5 hbw
      go_wp2
      go_loopw [7] (fun i wr => ∃ j : Nat, j ≤ k ∧ i = .int .i64 j ∧ Hid (XrOut D k X wr X.heap.size j)) (fun i _ => k - (intOf i).toNat)
      case atStart => exact ⟨0, Nat.zero_le _, rfl, List.replicate k 0, by simp, fun j h1 h2 => by omega, HR5.out, HG5.out⟩
      case round =>
        obtain ⟨j, hj, rfl, HI⟩ := hrel
        obtain ⟨xs, hxl, hxs, hrx, hgx⟩ := HI.out
        have HXL := hid hxl
        have HXS := hid hxs
        have HRX := hid hrx
        have HGX := hid hgx
        clear hxl hxs hrx hgx HI
        by_cases hlt : j < k
        · obtain ⟨hb1, _⟩ := (HROW.out.grow HGX.out).cell j hlt
          obtain ⟨hd1, hd2⟩ := HRX.out.cell (k - 1 - j) (by omega)
          obtain ⟨y, hy⟩ : ∃ y, y = (Dgs n k).getD j 0 := ⟨_, rfl⟩
          obtain ⟨z, hz⟩ : ∃ z, z = xs.getD (k - 1 - j) 0 := ⟨_, rfl⟩
          rw [← hy] at hb1
          rw [← hz] at hd1
          have HY := hid hy
          obtain ⟨t, ht⟩ : ∃ t : Nat, t = k - 1 - j := ⟨_, rfl⟩
          rw [← ht] at hd1 hd2
          have hti : (k : Int) - 1 - (j : Int) = (t : Int) := by omega
          have hw1 : IntKind.i64.wrap ((k : Int) - 1) = (k : Int) - 1 := IntWalk.i64_in _ (by omega)
          have hw2 : IntKind.i64.wrap ((k : Int) - 1 - (j : Int)) = (t : Int) := by rw [hti]; exact IntWalk.i64_in _ (by omega)
          have htk : t < k := by omega
          have HT := hid ht
          have HSET := hid (HRX.out.set t y)
          have HGS : Hid (Gr X (wr.setCell ⟨X.heap.size, t, none⟩ (.int .u8 (y.toNat : Int)))) := HGX.out.setCell (by simp) _
          clear hy hz ht hti
          go_wp2
          go_roundw
          case rel =>
            refine ⟨j + 1, by omega, by go_num, xs.set t y, by rw [List.length_set]; exact HXL.out, fun i h1 h2 => ?_, HSET.out, HGS.out⟩
            have h3 := HT.out
            by_cases hit : i = t
            · subst hit
              rw [List.getD_eq_getElem?_getD, List.getElem?_set_self (by rw [HXL.out]; exact h2), h3, HDG.out j hlt, ← HY.out]
              rfl
            · rw [List.getD_eq_getElem?_getD, List.getElem?_set_ne (fun h => hit h.symm), ← List.getD_eq_getElem?_getD]
              exact HXS.out i (by omega) h2
          case measure => simp [intOf]; omega
        · have hxd : xs = D := listb_eq_getD (by rw [HXL.out, HDL.out]) (fun i hi => HXS.out i (by omega) (by rw [HXL.out] at hi; exact hi))
          have hRD := HRX.out
          rw [hxd] at hRD
          have hne : D ≠ [] := fun h => by have := congrArg List.length h; rw [HDL.out] at this; simp at this; omega
          have hstr := RowB.str (P := Tryd.prog) 94 9 hRD hne Tryd.underlying94 Tryd.underlying5 Tryd.underlying9
          clear hRD hne hxd
          go_wp2
          go_ret
          exact ⟨rfl, HG.out.trans HGX.out⟩
end Go.Proofs.YtkbgdiejjabdmaaDoor
