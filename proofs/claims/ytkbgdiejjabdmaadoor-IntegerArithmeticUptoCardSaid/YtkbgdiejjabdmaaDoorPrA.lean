/- The walk of nat.Print: the decimal digits. -/
import Derived.Test.YtkbgdiejjabdmaaDoorNatL
import Derived.Test.YtkbgdiejjabdmaaDoorPrP
import Derived.Test.YtkbgdiejjabdmaaDoorRowB
import Derived.Test.YtkbgdiejjabdmaaDoorFmt
import Derived.Deep.LoopGhost
import Derived.Deep.Cut
namespace Go.Proofs.YtkbgdiejjabdmaaDoor
open Go.RowKit

theorem Tryd.info_u8 : (Tryd.prog.info? 5).map (fun i => (i.zero, i.size, i.bytes)) = some (some (.int .u8 0), 1, 1) := by kernel_rfl
/-- The digits of n in the base 10^9, k of them, the lowest first. -/
def Pts (n k : Nat) : List Int := (List.range k).map fun i => ((n / 1000000000 ^ i % 1000000000 : Nat) : Int)
theorem Pts.len (n k : Nat) : (Pts n k).length = k := by simp [Pts]
theorem Pts.succ (n k : Nat) : Pts n (k + 1) = Pts n k ++ [((n / 1000000000 ^ k % 1000000000 : Nat) : Int)] := by simp [Pts, List.range_succ]
theorem Pts.get {n k i : Nat} (h : i < k) : (Pts n k).getD i 0 = ((n / 1000000000 ^ i % 1000000000 : Nat) : Int) := by
  rw [List.getD_eq_getElem?_getD, List.getElem?_eq_getElem (by rw [Pts.len]; exact h)]
  simp [Pts]
theorem Pts.lim (n k : Nat) : Lim (Pts n k) := by
  intro y hy
  obtain ⟨i, _, rfl⟩ := List.mem_map.1 hy
  have := Nat.mod_lt (n / 1000000000 ^ i) (show 0 < 1000000000 by decide)
  omega
theorem div_step (n k : Nat) : n / 1000000000 ^ (k + 1) = n / 1000000000 ^ k / 1000000000 := by rw [Nat.pow_succ, Nat.div_div_eq_div_mul]
theorem lt_pow_len {n L : Nat} (h : (limbs n).length ≤ L) : n < 4294967296 ^ L := by
  have h2 := val_lt (limbs_lim n)
  rw [val_limbs] at h2
  exact Nat.lt_of_lt_of_le h2 (Nat.pow_le_pow_right (by decide) h)
theorem pts_bound {n k L : Nat} (h : (limbs n).length ≤ L) (hk : n / 1000000000 ^ k ≠ 0) : k + 1 ≤ 2 * L := by
  have h1 : 1000000000 ^ k ≤ n := by
    rcases Nat.lt_or_ge n (1000000000 ^ k) with h2 | h2
    · exact absurd (Nat.div_eq_of_lt h2) hk
    · exact h2
  have h2 := lt_pow_len h
  have h3 : (4294967296 : Nat) ^ L ≤ (1000000000 ^ 2) ^ L := Nat.pow_le_pow_left (by decide) L
  rw [← Nat.pow_mul] at h3
  have h4 : (1000000000 : Nat) ^ k < 1000000000 ^ (2 * L) := Nat.lt_of_le_of_lt h1 (Nat.lt_of_lt_of_le h2 h3)
  exact (Nat.pow_lt_pow_iff_right (by decide)).1 h4
theorem dec_bound {n L : Nat} (h : (limbs n).length ≤ L) (m : Nat) (hm : m ≤ n) : (Lib.decDigits m).length ≤ 10 * L + 1 := by
  refine dec_len_le (10 * L + 1) ?_ (by omega)
  have h2 := lt_pow_len h
  have h3 : (4294967296 : Nat) ^ L ≤ (10 ^ 10) ^ L := Nat.pow_le_pow_left (by decide) L
  rw [← Nat.pow_mul] at h3
  exact Nat.lt_of_le_of_lt hm (Nat.lt_of_lt_of_le h2 (Nat.le_trans h3 (Nat.pow_le_pow_right (by decide) (Nat.le_succ _))))
theorem div_pow_ne {n j k : Nat} (hjk : j ≤ k) (h : n / 1000000000 ^ k ≠ 0) : n / 1000000000 ^ j ≠ 0 := by
  intro h2
  apply h
  have hp : 0 < 1000000000 ^ j := Nat.pow_pos (by decide)
  rw [Nat.div_eq_zero_iff] at h2 ⊢
  rcases h2 with h2 | h2
  · omega
  · exact .inr (Nat.lt_of_lt_of_le h2 (Nat.pow_le_pow_right (by decide) hjk))

def PrIn (n L : Nat) (w wr : World) (m : Nat) (v3 v4 : Value) : Prop :=
  ∃ k, m = n / 1000000000 ^ k ∧ (∀ j, k = j + 1 → n / 1000000000 ^ j ≠ 0) ∧ VN wr w.heap.size v3 m L ∧ Row wr w.heap.size 78 v4 (Pts n k) ∧ Gr w wr
def PrOut (n k : Nat) (X wr : World) (j : Nat) (v : Value) : Prop := RowB wr X.heap.size 5 v (if j = k then [] else Lib.decDigits (n / 1000000000 ^ j)) ∧ Gr X wr
def PrPad (X wr : World) (O : List UInt8) (d : Nat) (v : Value) : Prop := RowB wr X.heap.size 5 v (O ++ List.replicate d 48) ∧ Gr X wr

set_option maxRecDepth 100000 in
set_option maxHeartbeats 8000000 in
theorem print_c (w : World) (v1 : Value) (n L : Nat) (h1 : AN w v1 n L) (hL : L ≤ 1099511627776) (ht : Tab w) :
    Calls Tryd.prog 47 #[v1] w (Is w (.string ⟨(Lib.decDigits n).toArray⟩)) := by
  have hln : (limbs n).length ≤ L := by
    obtain ⟨A, c, xs, rfl, hr, rfl, hl⟩ := h1
    exact Nat.le_trans (limbs_val_le hr.lim) hl
  have HLN := hid hln
  have HNM := hid (norm_c w v1 n L h1 hL)
  have HTB := hid ht
  have HL := hid hL
  have HDS : Hid (∀ (V : World) (v : Value) (m : Nat), AN V v m L → Calls Tryd.prog 98 #[v, .int .u32 1000000000] V (RetV V fun u r w' => VN w' V.heap.size u (m / 1000000000) L ∧ r = .int .u32 ((m % 1000000000 : Nat) : Int))) := fun V v m h => divSmall_c V v m L 1000000000 h HL.out (by decide) (by decide)
  obtain ⟨D, hD⟩ : ∃ D, D = Lib.decDigits n := ⟨_, rfl⟩
  rw [← hD]
  have HD := hid hD
  clear hln h1 ht hL hD
  go_enter Tryd.func47, Tryd.ntmps47
  go_wp2_with fail
  refine HNM.out.mono ?_
  rintro e w1 ⟨x, rfl, hx, hg1⟩
  have HX := hid hx
  have HG1 := hid hg1
  clear hx hg1
  go_wp2
  go_loopg [3, 4] n (fun g v3 v4 wr => Hid (PrIn n L w wr g v3 v4))
  case atStart => exact ⟨0, by simp, fun j h => (by cases h), HX.out, Row.nil _ _ _, HG1.out⟩
  case round =>
    obtain ⟨k, hm, hk, ⟨A, c, rfl, hr, hlen, hown⟩, hrow, hg⟩ := hrel.out
    have HM := hid hm
    have HK := hid hk
    have HX2 : Hid (VN wr w.heap.size (.slice A (limbs gk).length c) gk L) := ⟨A, c, rfl, hr, hlen, hown⟩
    have HROW := hid hrow
    have HG := hid hg
    clear hm hk hr hlen hown hrow hg hrel HX HG1 HNM
    by_cases h0 : 0 < gk
    · have hpos : 0 < (limbs gk).length := by
        rcases Nat.eq_zero_or_pos (limbs gk).length with h | h
        · have := limbs_nil.1 (List.eq_nil_of_length_eq_zero h); omega
        · exact h
      have hgk : n / 1000000000 ^ k ≠ 0 := by rw [← HM.out]; omega
      have HKB := hid (pts_bound HLN.out hgk)
      have HGK := hid hgk
      clear hgk
      go_wp2_with fail
      refine (HDS.out wr _ gk HX2.out.an).mono ?_
      rintro e w3 ⟨q, r, rfl, ⟨hq, rfl⟩, hg3⟩
      have hb3 : w.heap.size ≤ w3.heap.size := Nat.le_trans HG.out.size hg3.size
      have HQ := hid hq
      have HG3 := hid hg3
      have HGW := hid (HG.out.trans hg3)
      have HROW3 : Hid (Row w3 w.heap.size 78 _ (Pts n k)) := ownsRow.grow HROW.out hg3
      clear hq hg3
      go_wp2_with (at_builtin; refine app_one_fr (w0 := w) rfl (.tmp 20) (.tmp 22) 23 78 w.heap.size rfl Tryd.underlying23 Tryd.info_u32 _ (Pts n k) _ rfl rfl HROW3.out (by rw [Pts.len]; have := HKB.out; have := HL.out; omega) hb3 HGW.out ?_)
      intro v4 w4 hrow4 hbel4 hgb
      have HQ4 : Hid (VN w4 w.heap.size q (gk / 1000000000) L) := ((HQ.out.gr (Gr.alloc _ _)).grownBy hgb (fun k' hk' => (HROW.out.blk_lt hk').2)).base HG.out.size
      have HROW4 : Hid (Row w4 w.heap.size 78 v4 (Pts n (k + 1))) := by
        show Row _ _ _ _ _
        rw [Pts.succ, ← HM.out]; exact hrow4
      have HG4 := hid hbel4
      clear hrow4 hbel4 hgb hb3
      go_wp2
      go_roundg (gk / 1000000000)
      case measure => omega
      case rel =>
        refine ⟨k + 1, by rw [div_step, ← HM.out], fun j hj => ?_, HQ4.out, HROW4.out, HG4.out⟩
        obtain rfl : j = k := by omega
        exact HGK.out
    · obtain rfl : gk = 0 := by omega
      have hlen0 : (limbs 0).length = 0 := by rw [limbs_zero]; rfl
      obtain ⟨A4, c4, rfl, hr4, _⟩ := HROW.out.reads (Pts.lim n k)
      rw [hlen0]
      have C4 := hid hr4.cells
      rw [Pts.len]
      rw [Pts.len] at C4
      clear hr4 hlen0
      by_cases hk0 : k = 0
      · subst hk0
        have hn0 : n = 0 := by have := HM.out; simpa using this.symm
        have hDD : D = [48] := by rw [HD.out, hn0, dec_zero]
        have HDD := hid hDD
        clear hn0 hDD
        go_wp2
        go_ret
        exact ⟨by rw [HDD.out]; rfl, HG.out⟩
      · have hkb : ((k : Int) == 0) = false := by rw [beq_eq_false_iff_ne]; omega
        obtain ⟨k', hk'⟩ : ∃ k', k = k' + 1 := ⟨k - 1, by omega⟩
        have hlast := HK.out k' hk'
        have HLAST := hid hlast
        have HKB := hid (pts_bound HLN.out hlast)
        have HKK := hid hk'
        have hkL : (k : Int) ≤ 4398046511104 := by have := HKB.out; have := HL.out; omega
        obtain ⟨X, hX⟩ : ∃ X : World, X = wr := ⟨_, rfl⟩
        subst hX
        obtain ⟨kz, hkz⟩ : ∃ z : Int, z = (k : Int) - 1 := ⟨_, rfl⟩
        have hkw : IntKind.i64.wrap ((k : Int) - 1) = kz := by rw [hkz]; exact IntWalk.i64_in _ (by omega)
        have HKZ := hid hkz
        clear hlast hk' hk0 hkz
        go_wp2
        go_loopw [7, 8] (fun v i wr => ∃ (j : Nat) (z : Int), j ≤ k ∧ i = .int .i64 z ∧ z = (j : Int) - 1 ∧ Hid (PrOut n k X wr j v)) (fun _ i _ => (intOf i + 1).toNat)
        case atStart => exact ⟨k, _, Nat.le_refl _, rfl, HKZ.out, by unfold Hid PrOut; rw [if_pos rfl]; exact ⟨RowB.nil _ _ _, Gr.refl _⟩⟩
        case round =>
          obtain ⟨j, z, hj, rfl, hz, HI⟩ := hrel
          have HRB := hid HI.out.1
          have HGX := hid HI.out.2
          clear HI
          by_cases hj0 : 0 < j
          · obtain ⟨i, rfl⟩ : ∃ i, j = i + 1 := ⟨j - 1, by omega⟩
            obtain rfl : z = (i : Int) := by omega
            clear hz hj0
            have hik : i < k := by omega
            obtain ⟨g1, o1, rfl, hcl⟩ := C4.out (by omega)
            have hcx : wr.cell? ⟨g1, o1 + i, none⟩ = some (.int .u32 ((Pts n k).getD i 0)) := Gr.cell HGX.out (hcl i hik)
            rw [Pts.get hik] at hcx
            obtain ⟨p, hp⟩ : ∃ p, p = n / 1000000000 ^ i % 1000000000 := ⟨_, rfl⟩
            rw [← hp] at hcx
            have hp9 : p < 1000000000 := by rw [hp]; exact Nat.mod_lt _ (by decide)
            have HST := hid (dec_step (n := n / 1000000000 ^ i) (m := n / 1000000000 ^ (i + 1)) (r := p) (div_step n i) hp)
            have HL9 := hid (dec_len9 hp9)
            have hfc := fmt_c wr p (by omega) ((HTB.out.gr HG.out).gr HGX.out)
            obtain ⟨Y, hY⟩ : ∃ Y, Y = Lib.decDigits p := ⟨_, rfl⟩
            rw [← hY] at HST HL9 hfc
            obtain ⟨S, hS⟩ : ∃ S : ByteArray, S = ⟨Y.toArray⟩ := ⟨_, rfl⟩
            have hSl : S.data.toList = Y := by rw [hS]
            have hSz : S.size = Y.length := by rw [hS]; show Y.toArray.size = _; simp
            rw [← hS] at hfc
            have HFC := hid hfc
            have HSL := hid hSl
            have HSZ := hid hSz
            have hS9 : (S.size : Int) ≤ 9 := by rw [hSz]; have := HL9.out; omega
            have HO := hid (dec_bound HLN.out (n / 1000000000 ^ (i + 1)) (Nat.div_le_self _ _))
            have hpz : (p : Int) < 1000000000 := by omega
            clear hp hS hSl hSz hcl hp9 hfc hY
            have hbx : Hid (w.heap.size ≤ X.heap.size) := HG.out.size
            by_cases hlast : i + 1 = k
            · have hlt : ¬ (i : Int) < kz := by have := HKZ.out; omega
              have hfin : n / 1000000000 ^ (i + 1) = 0 := by rw [hlast]; exact HM.out.symm
              have HFIN : Hid (Lib.decDigits (n / 1000000000 ^ i) = [] ++ Y) := by
                unfold Hid; rw [HST.out, if_pos hfin]; rfl
              have hrb0 := HRB.out
              rw [if_pos hlast] at hrb0
              have HRB0 := hid hrb0
              clear hrb0
              have HLT := hid hlast
              have HIK := hid hik
              clear hlast hfin hj
              go_wp2_with fail
              refine HFC.out.mono ?_
              rintro e w5 ⟨rfl, hg5⟩
              have hb5 : X.heap.size ≤ w5.heap.size := Nat.le_trans HGX.out.size hg5.size
              have HG5 := hid (HGX.out.trans hg5)
              have HRB5 := hid (HRB0.out.grow hg5)
              clear hg5 hcx
              have HB5 := hid hb5
              clear hik hb5 hpz hbx h0
              go_upto_region 19 with (fail)
              go_wp2_with (at_builtin; refine appb_str (w0 := X) rfl (.tmp 55) (.tmp 56) 94 9 5 X.heap.size rfl Tryd.underlying94 Tryd.underlying9 Tryd.info_u8 _ [] (Y) _ rfl rfl HSL.out HRB5.out (by have := HL9.out; rw [List.length_nil]; omega) HB5.out HG5.out ?_)
              intro v7 w7 hrow7 hbel7 _
              have HR7 := hid hrow7
              have HB7 := hid hbel7
              clear hrow7 hbel7
              have hzw : IntKind.i64.wrap ((i : Int) - 1) = (i : Int) - 1 := IntWalk.i64_in _ (by have := HIK.out; omega)
              go_wp2
              go_roundw
              case rel => exact ⟨i, _, by have := HIK.out; omega, rfl, by omega, by unfold Hid PrOut; rw [if_neg (by have := HIK.out; omega), HFIN.out]; exact ⟨HR7.out, HB7.out⟩⟩
              case measure => first | (simp [intOf]; done) | (simp [intOf]; omega)
            · have hlt : (i : Int) < kz := by have := HKZ.out; omega
              have hfin : n / 1000000000 ^ (i + 1) ≠ 0 := div_pow_ne (k := k') (by have := HKK.out; omega) HLAST.out
              have HFIN : Hid (Lib.decDigits (n / 1000000000 ^ i) = Lib.decDigits (n / 1000000000 ^ (i + 1)) ++ (List.replicate (9 - (Y).length) 48 ++ Y)) := by
                unfold Hid; rw [HST.out, if_neg hfin]
              obtain ⟨O, hO⟩ : ∃ O, O = Lib.decDigits (n / 1000000000 ^ (i + 1)) := ⟨_, rfl⟩
              have hrb0 := HRB.out
              rw [if_neg hlast, ← hO] at hrb0
              have HRB0 := hid hrb0
              clear hrb0
              rw [← hO] at HFIN HO
              clear hlast hfin hO
              go_wp2_with fail
              refine HFC.out.mono ?_
              rintro e w5 ⟨rfl, hg5⟩
              have HG5 := hid (HGX.out.trans hg5)
              have HRB5 := hid (HRB0.out.grow hg5)
              clear hg5 hcx
              have hw9 : IntKind.i64.wrap (9 - (S.size : Int)) = 9 - (S.size : Int) := IntWalk.i64_in _ (by omega)
              go_wp2
              go_loopw [7, 49] (fun v t wr => ∃ d : Nat, (d : Int) ≤ 9 - S.size ∧ t = .int .i64 d ∧ Hid (PrPad X wr O d v)) (fun _ t _ => (9 - (S.size : Int) - intOf t).toNat)
              case atStart => exact ⟨0, by omega, rfl, by unfold Hid PrPad; simpa using ⟨HRB5.out, HG5.out⟩⟩
              case round =>
                obtain ⟨d, hd, rfl, HI⟩ := hrel
                have HRP := hid HI.out.1
                have HGP := hid HI.out.2
                have hbp : X.heap.size ≤ wr.heap.size := HGP.out.size
                clear HI
                by_cases hdl : (d : Int) < 9 - S.size
                · go_wp2_with (at_builtin; refine appb_one (w0 := X) rfl (.tmp 51) (.tmp 52) 94 5 X.heap.size rfl Tryd.underlying94 Tryd.info_u8 _ (O ++ List.replicate d 48) _ 48 rfl rfl rfl HRP.out (by have := HO.out; have := HL.out; simp; omega) hbp HGP.out ?_)
                  intro v7 w7 hrow7 hbel7 _
                  have HR7 := hid hrow7
                  have HB7 := hid hbel7
                  clear hrow7 hbel7 hbp
                  go_wp2
                  go_roundw
                  case rel => exact ⟨d + 1, by omega, by go_num, by unfold Hid PrPad; rw [List.replicate_succ']; exact ⟨HR7.out, HB7.out⟩⟩
                  case measure => first | (simp [intOf]; done) | (simp [intOf]; omega)
                · have hdd : d = 9 - (Y).length := by have := HSZ.out; omega
                  have HDD := hid hdd
                  clear hdd
                  go_wp2_with (at_builtin; refine appb_str (w0 := X) rfl (.tmp 55) (.tmp 56) 94 9 5 X.heap.size rfl Tryd.underlying94 Tryd.underlying9 Tryd.info_u8 _ (O ++ List.replicate d 48) (Y) _ rfl rfl HSL.out HRP.out (by have := HL9.out; have := HO.out; have := HL.out; simp; omega) hbp HGP.out ?_)
                  intro v7 w7 hrow7 hbel7 _
                  have HR7 := hid hrow7
                  have HB7 := hid hbel7
                  clear hrow7 hbel7 hbp
                  have hzw : IntKind.i64.wrap ((i : Int) - 1) = (i : Int) - 1 := IntWalk.i64_in _ (by omega)
                  go_wp2
                  go_roundw
                  case rel => exact ⟨i, _, by omega, rfl, by omega, by unfold Hid PrOut; rw [if_neg (by omega), HFIN.out, ← HDD.out]; exact ⟨HR7.out, HB7.out⟩⟩
                  case measure => first | (simp [intOf]; done) | (simp [intOf]; omega)
          · obtain rfl : j = 0 := by omega
            obtain rfl : z = -1 := by omega
            clear hz hj0 hj
            have hRD := HRB.out
            rw [if_neg (by have := HKK.out; omega), Nat.pow_zero, Nat.div_one, ← HD.out] at hRD
            have hstr := RowB.str (P := Tryd.prog) 94 9 hRD (by rw [HD.out]; exact dec_ne n) Tryd.underlying94 Tryd.underlying5 Tryd.underlying9
            clear hRD
            go_wp2
            go_ret
            exact ⟨rfl, HG.out.trans HGX.out⟩
end Go.Proofs.YtkbgdiejjabdmaaDoor
