/- The walks of the sums of ratios. -/
import Derived.Test.YtkbgdiejjabdmaaLawB
import Derived.Test.YtkbgdiejjabdmaaRgG
import Derived.Deep.RegionHeld3
import Derived.Deep.Cut
namespace Go.Proofs.Ytkbgdiejjabdmaa
open Go.RowKit

/-- A list of ratios in memory, in any form. -/
def RL (W : World) (A : Option Addr) (n L : Nat) (r : Nat → Rat) : Prop := ∀ i, i < n → ∃ g o s A1 l1 c1 B1 m1 e1, A = some ⟨g, o, none⟩ ∧ W.cell? ⟨g, o + i * 3, none⟩ = some (.bool s) ∧ W.cell? ⟨g, o + i * 3 + 1, none⟩ = some (.slice A1 l1 c1) ∧ W.cell? ⟨g, o + i * 3 + 2, none⟩ = some (.slice B1 m1 e1) ∧ AQ W (.agg #[.bool s, .slice A1 l1 c1, .slice B1 m1 e1]) (r i) L
def rsum (r : Nat → Rat) : Nat → Rat
  | 0 => 0
  | k + 1 => rsum r k + r k
def sl : Nat → Nat
  | 0 => 6
  | k + 1 => 2 * sl k + 1
theorem sl_pow (k : Nat) : sl k + 1 = 7 * 2 ^ k := by
  induction k with
  | zero => rfl
  | succ k ih => simp only [sl, Nat.pow_succ]; omega
theorem sl_le {k : Nat} (h : k ≤ 20) : sl k ≤ 7340031 := by
  have h1 := sl_pow k
  have h2 : 2 ^ k ≤ 2 ^ 20 := Nat.pow_le_pow_right (by decide) h
  omega
theorem sl_ge (k : Nat) : 6 ≤ sl k := by
  have h1 := sl_pow k
  have h2 := Nat.two_pow_pos k
  omega

set_option maxHeartbeats 8000000 in
theorem rsum_c (w : World) {A : Option Addr} {n c : Nat} {r : Nat → Rat} (hl : RL w A n 6 r) (hn : n ≤ 20) :
    Calls Try.prog 15 #[.slice A n c] w (Ret w fun v w' => VQ w' w.heap.size v (rsum r n) 7340031) := by
  have HL := hid hl
  clear hl
  go_enter Try.func15, Try.ntmps15
  go_wp2_with fail
  obtain ⟨W, hW⟩ : ∃ W, W = w.alloc (.cells #[.bool false, .slice none 0 0, .slice none 0 0] 27) := ⟨_, rfl⟩
  obtain ⟨hg, b0⟩ := al1 w #[.bool false, .slice none 0 0, .slice none 0 0] 27
  rw [← hW] at hg b0 ⊢
  clear hW
  have HB0 := hid b0
  have HG := hid hg
  have HS : Hid (w.heap.size < W.heap.size) := by have h := b0.lt; unfold Hid; omega
  clear hg b0
  refine (rzero_c W).mono ?_
  rintro e w1 ⟨v1, rfl, hv1, hg1⟩
  obtain ⟨A1, l1, c1, B1, m1, e1, rfl, hv1⟩ := hv1.form
  obtain ⟨s1, hs⟩ : ∃ b, b = decide ((0 : Rat).num < 0) := ⟨_, rfl⟩
  rw [← hs] at hv1 ⊢
  clear hs
  go_upto_region 2 with (fail)
  obtain ⟨W1, hW1⟩ : ∃ V, V = w1.alloc (.cells #[.bool s1, .slice A1 l1 c1, .slice B1 m1 e1] 27) := ⟨_, rfl⟩
  obtain ⟨hgl, bl⟩ := al1 w1 #[.bool s1, .slice A1 l1 c1, .slice B1 m1 e1] 27
  rw [← hW1] at hgl bl ⊢
  clear hW1
  have HV1 := hid ((hv1.gr hgl).base (b' := w.heap.size) (by have := HS.out; omega))
  have HX1 := hid (hg1.trans hgl)
  have HB1 := hid bl
  have HSZ : Hid (w.heap.size < w1.heap.size) := Nat.lt_of_lt_of_le HS.out hg1.size
  clear hv1 hg1 hgl bl
  go_wp2
  go_loopw [9] (fun i wr => ∃ k : Nat, k ≤ n ∧ i = .int .i64 k ∧ ∃ s A' l c' B m e, Hid (Blk wr w1.heap.size #[.bool s, .slice A' l c', .slice B m e] 27) ∧ Hid (VQ wr w.heap.size (.agg #[.bool s, .slice A' l c', .slice B m e]) (rsum r k) (sl k)) ∧ Hid (Blk wr w.heap.size #[.bool false, .slice none 0 0, .slice none 0 0] 27) ∧ Hid (Gr w wr)) (fun i _ => n - (intOf i).toNat)
  case atStart => exact ⟨0, Nat.zero_le _, rfl, _, _, _, _, _, _, _, HB1.out, HV1.out.le (by decide), HB0.out.gr HX1.out, HG.out.trans HX1.out⟩
  case round =>
    obtain ⟨k, hk, rfl, s, A', l, c', B, m, e, HBS, HVS, HBR, HGR⟩ := hrel
    have hne : w1.heap.size ≠ w.heap.size := by have := HSZ.out; omega
    have hne2 : w.heap.size ≠ w1.heap.size := by have := HSZ.out; omega
    have x0 : wr.cell? ⟨w1.heap.size, 0, none⟩ = some (.bool s) := HBS.out.c 0 rfl
    have x1 : wr.cell? ⟨w1.heap.size, 1, none⟩ = some (.slice A' l c') := HBS.out.c 1 rfl
    have x2 : wr.cell? ⟨w1.heap.size, 2, none⟩ = some (.slice B m e) := HBS.out.c 2 rfl
    have hsl := sl_le (show k ≤ 20 by omega)
    have hsg := sl_ge k
    by_cases hlt : k < n
    · obtain ⟨g, o, s2, A2, l2, c2, B2, m2, e2, rfl, y0, y1, y2, hq⟩ := HL.out k hlt
      have y0 := Gr.cell HGR.out y0
      have y1 := Gr.cell HGR.out y1
      have y2 := Gr.cell HGR.out y2
      have HQ := hid ((hq.gr HGR.out).le hsg)
      have HLT := hid HBS.out.lt
      have HLR := hid HBR.out.lt
      clear hq
      have hltw := HLT.out
      go_wp2_with fail
      refine (radd_c _ _ _ (rsum r k) (r k) (sl k) (HVS.out.aq.gr (Gr.alloc _ _)) (HQ.out.gr (Gr.alloc _ _)) (by omega) (by omega)).mono ?_
      rintro e6 w6 ⟨v6, rfl, hv6, hg6⟩
      obtain ⟨A6, l6, c6, B6, m6, n6, rfl, hv6⟩ := hv6.form
      obtain ⟨s6, hs⟩ : ∃ b, b = decide ((rsum r k + r k).num < 0) := ⟨_, rfl⟩
      rw [← hs] at hv6 ⊢
      clear hs
      have hg6 := (Gr.alloc _ _).trans hg6
      have hb6 := HBS.out.gr hg6
      have hr6 := HBR.out.gr hg6
      have hv7 : VQ w6 w.heap.size (.agg #[.bool s6, .slice A6 l6 c6, .slice B6 m6 n6]) (rsum r (k + 1)) (sl (k + 1)) := hv6.base (b' := w.heap.size) (by have := HLR.out; simp; omega)
      have HB6 := hid hb6
      have HR6 := hid hr6
      have HV7 := hid hv7
      have HG7 := hid (HGR.out.trans hg6)
      have hle : w.heap.size ≤ w1.heap.size := by have := HSZ.out; omega
      have z0 : w6.cell? ⟨w1.heap.size, 0, none⟩ = some (.bool s) := HB6.out.c 0 rfl
      have p0 : w6.frozen? ⟨w1.heap.size, 0, none⟩ = false := HB6.out.free 0
      have z1 : w6.cell? ⟨w1.heap.size, 1, none⟩ = some (.slice A' l c') := HB6.out.c 1 rfl
      have p1 : w6.frozen? ⟨w1.heap.size, 1, none⟩ = false := HB6.out.free 1
      have z2 : w6.cell? ⟨w1.heap.size, 2, none⟩ = some (.slice B m e) := HB6.out.c 2 rfl
      have p2 : w6.frozen? ⟨w1.heap.size, 2, none⟩ = false := HB6.out.free 2
      have p3 : w1.heap.size < w6.heap.size := HB6.out.lt
      clear hb6 hr6 hv7 hv6
      go_wp2
      go_roundw
      case rel => exact ⟨k + 1, by omega, by go_num, _, _, _, _, _, _, _, Blk.set3 HB6.out, VQ.box HV7.out HB6.out (ex3 _ _ _ _ _), HR6.out.oth hne2, Gr.set3 HG7.out hle⟩
      case measure => first | (simp [intOf]; done) | (simp [intOf]; omega)
    · have hkn : k = n := by omega
      subst hkn
      have r0 : wr.cell? ⟨w.heap.size, 0, none⟩ = some (.bool false) := HBR.out.c 0 rfl
      have r1 : wr.cell? ⟨w.heap.size, 1, none⟩ = some (.slice none 0 0) := HBR.out.c 1 rfl
      have r2 : wr.cell? ⟨w.heap.size, 2, none⟩ = some (.slice none 0 0) := HBR.out.c 2 rfl
      have t0 : wr.frozen? ⟨w.heap.size, 0, none⟩ = false := HBR.out.free 0
      have t1 : wr.frozen? ⟨w.heap.size, 1, none⟩ = false := HBR.out.free 1
      have t2 : wr.frozen? ⟨w.heap.size, 2, none⟩ = false := HBR.out.free 2
      have t3 : w.heap.size < wr.heap.size := HBR.out.lt
      go_wp2
      refine ratio_end rfl rfl rfl HBR.out ?_
      intro V hV
      exact ⟨_, rfl, (VQ.box HVS.out HBR.out hV).le hsl, HGR.out.ex hV (Nat.le_refl _)⟩

set_option maxHeartbeats 8000000 in
theorem xrsum_c (w : World) {A : Option Addr} {n c : Nat} {r : Nat → Rat} (hl : RL w A n 6 r) (hn : n ≤ 20) :
    Calls Try.prog 16 #[.slice A n c] w (Ret w fun v w' => VQ w' w.heap.size v (rsum r n) 7340031) := by
  have HL := hid hl
  clear hl
  go_enter Try.func16, Try.ntmps16
  go_wp2_with fail
  obtain ⟨W, hW⟩ : ∃ W, W = w.alloc (.cells #[.bool false, .slice none 0 0, .slice none 0 0] 27) := ⟨_, rfl⟩
  obtain ⟨hg, b0⟩ := al1 w #[.bool false, .slice none 0 0, .slice none 0 0] 27
  rw [← hW] at hg b0 ⊢
  clear hW
  have HB0 := hid b0
  have HG := hid hg
  have HS : Hid (w.heap.size < W.heap.size) := by have h := b0.lt; unfold Hid; omega
  clear hg b0
  refine (xrzero_c W).mono ?_
  rintro e w1 ⟨v1, rfl, hv1, hg1⟩
  obtain ⟨A1, l1, c1, B1, m1, e1, rfl, hv1⟩ := hv1.form
  obtain ⟨s1, hs⟩ : ∃ b, b = decide ((0 : Rat).num < 0) := ⟨_, rfl⟩
  rw [← hs] at hv1 ⊢
  clear hs
  go_upto_region 2 with (fail)
  obtain ⟨W1, hW1⟩ : ∃ V, V = w1.alloc (.cells #[.bool s1, .slice A1 l1 c1, .slice B1 m1 e1] 27) := ⟨_, rfl⟩
  obtain ⟨hgl, bl⟩ := al1 w1 #[.bool s1, .slice A1 l1 c1, .slice B1 m1 e1] 27
  rw [← hW1] at hgl bl ⊢
  clear hW1
  have HV1 := hid ((hv1.gr hgl).base (b' := w.heap.size) (by have := HS.out; omega))
  have HX1 := hid (hg1.trans hgl)
  have HB1 := hid bl
  have HSZ : Hid (w.heap.size < w1.heap.size) := Nat.lt_of_lt_of_le HS.out hg1.size
  clear hv1 hg1 hgl bl
  go_wp2
  go_loopw [4] (fun i wr => ∃ k : Nat, k ≤ n ∧ i = .int .i64 k ∧ ∃ s A' l c' B m e, Hid (Blk wr w1.heap.size #[.bool s, .slice A' l c', .slice B m e] 27) ∧ Hid (VQ wr w.heap.size (.agg #[.bool s, .slice A' l c', .slice B m e]) (rsum r k) (sl k)) ∧ Hid (Blk wr w.heap.size #[.bool false, .slice none 0 0, .slice none 0 0] 27) ∧ Hid (Gr w wr)) (fun i _ => n - (intOf i).toNat)
  case atStart => exact ⟨0, Nat.zero_le _, rfl, _, _, _, _, _, _, _, HB1.out, HV1.out.le (by decide), HB0.out.gr HX1.out, HG.out.trans HX1.out⟩
  case round =>
    obtain ⟨k, hk, rfl, s, A', l, c', B, m, e, HBS, HVS, HBR, HGR⟩ := hrel
    have hne : w1.heap.size ≠ w.heap.size := by have := HSZ.out; omega
    have hne2 : w.heap.size ≠ w1.heap.size := by have := HSZ.out; omega
    have x0 : wr.cell? ⟨w1.heap.size, 0, none⟩ = some (.bool s) := HBS.out.c 0 rfl
    have x1 : wr.cell? ⟨w1.heap.size, 1, none⟩ = some (.slice A' l c') := HBS.out.c 1 rfl
    have x2 : wr.cell? ⟨w1.heap.size, 2, none⟩ = some (.slice B m e) := HBS.out.c 2 rfl
    have hsl := sl_le (show k ≤ 20 by omega)
    have hsg := sl_ge k
    by_cases hlt : k < n
    · obtain ⟨g, o, s2, A2, l2, c2, B2, m2, e2, rfl, y0, y1, y2, hq⟩ := HL.out k hlt
      have hy0 := y0
      have y0 := Gr.cell HGR.out y0
      have y1 := Gr.cell HGR.out y1
      have y2 := Gr.cell HGR.out y2
      have HQ := hid ((hq.gr HGR.out).le hsg)
      have HLT := hid HBS.out.lt
      have HLR := hid HBR.out.lt
      clear hq
      have hgne : g ≠ w1.heap.size := by
        have h1 : g < w.heap.size := World.block_lt_of_cell? w ⟨g, o + k * 3, none⟩ hy0
        have := HSZ.out
        omega
      clear hy0
      go_wp2
      go_region_with
        (first
          | (go_at_call 21; refine (xradd_c _ _ _ (rsum r k) (r k) (sl k) (HVS.out.aq.gr (Gr.refl wr).drew) (HQ.out.gr (Gr.refl wr).drew) (by omega) (by omega)).mono ?_; rintro e6 w6 ⟨v6, rfl, hv6, hg6⟩; obtain ⟨A6, l6, c6, B6, m6, n6, rfl, hv6⟩ := hv6.form; obtain ⟨s6, hs⟩ : ∃ b, b = decide ((rsum r k + r k).num < 0) := ⟨_, rfl⟩; rw [← hs] at hv6 ⊢; clear hs; have HG6 := hid ((Gr.refl wr).drew.trans hg6); have HB6 := hid (HBS.out.gr HG6.out); have HV6 := hid hv6; have z0 : w6.cell? ⟨w1.heap.size, 0, none⟩ = some (.bool s) := HB6.out.c 0 rfl; have p0 : w6.frozen? ⟨w1.heap.size, 0, none⟩ = false := HB6.out.free 0; have z1 : w6.cell? ⟨w1.heap.size, 1, none⟩ = some (.slice A' l c') := HB6.out.c 1 rfl; have p1 : w6.frozen? ⟨w1.heap.size, 1, none⟩ = false := HB6.out.free 1; have z2 : w6.cell? ⟨w1.heap.size, 2, none⟩ = some (.slice B m e) := HB6.out.c 2 rfl; have p2 : w6.frozen? ⟨w1.heap.size, 2, none⟩ = false := HB6.out.free 2; have p3 : w1.heap.size < w6.heap.size := HB6.out.lt; clear hg6 hv6))
      all_goals have hv6 := HV6.out
      all_goals
        have hb6 := HBS.out.gr HG6.out
        have hr6 := HBR.out.gr HG6.out
        have hv7 : VQ w6 w.heap.size (.agg #[.bool s6, .slice A6 l6 c6, .slice B6 m6 n6]) (rsum r (k + 1)) (sl (k + 1)) := hv6.base (b' := w.heap.size) (by have := HLR.out; simp; omega)
        have HB6 := hid hb6
        have HR6 := hid hr6
        have HV7 := hid hv7
        have HG7 := hid (HGR.out.trans HG6.out)
        have hle : w.heap.size ≤ w1.heap.size := by have := HSZ.out; omega
        clear hb6 hr6 hv7 hv6
        go_wp2
        go_roundw
        case rel => exact ⟨k + 1, by omega, by go_num, _, _, _, _, _, _, _, Blk.set3 HB6.out, VQ.box HV7.out HB6.out (ex3 _ _ _ _ _), HR6.out.oth hne2, Gr.set3 HG7.out hle⟩
        case measure => first | (simp [intOf]; done) | (simp [intOf]; omega)
    · have hkn : k = n := by omega
      subst hkn
      have r0 : wr.cell? ⟨w.heap.size, 0, none⟩ = some (.bool false) := HBR.out.c 0 rfl
      have r1 : wr.cell? ⟨w.heap.size, 1, none⟩ = some (.slice none 0 0) := HBR.out.c 1 rfl
      have r2 : wr.cell? ⟨w.heap.size, 2, none⟩ = some (.slice none 0 0) := HBR.out.c 2 rfl
      have t0 : wr.frozen? ⟨w.heap.size, 0, none⟩ = false := HBR.out.free 0
      have t1 : wr.frozen? ⟨w.heap.size, 1, none⟩ = false := HBR.out.free 1
      have t2 : wr.frozen? ⟨w.heap.size, 2, none⟩ = false := HBR.out.free 2
      have t3 : w.heap.size < wr.heap.size := HBR.out.lt
      go_wp2
      refine ratio_end rfl rfl rfl HBR.out ?_
      intro V hV
      exact ⟨_, rfl, (VQ.box HVS.out HBR.out hV).le hsl, HGR.out.ex hV (Nat.le_refl _)⟩
end Go.Proofs.Ytkbgdiejjabdmaa
