/- The walk of the laws' helper normal, for a number in normal form. -/
import Derived.Test.YtkbgdiejjabdmaaLawA
namespace Go.Proofs.Ytkbgdiejjabdmaa
open Go.RowKit

/-- A number above 0 in memory, its top limb in sight. -/
theorem VN.top {w : World} {b : Nat} {v : Value} {n L : Nat} (h : VN w b v n L) (hn : n ≠ 0) : ∃ g o c l x, v = .slice (some ⟨g, o, none⟩) (l + 1) c ∧ l + 1 = (limbs n).length ∧ l + 1 ≤ c ∧ w.cell? ⟨g, o + l, none⟩ = some (.int .u32 x) ∧ x ≠ 0 ∧ l + 1 ≤ L := by
  obtain ⟨A, c, rfl, hr, hl, _⟩ := h
  have hp : 0 < (limbs n).length := by rw [limbs_lt]; omega
  obtain ⟨g, o, rfl, hc⟩ := hr.cells hp
  refine ⟨g, o, c, (limbs n).length - 1, (limbs n).getD ((limbs n).length - 1) 0, ?_, by omega, ?_, hc _ (by omega), limbs_top (by omega), by omega⟩
  · rw [show (limbs n).length - 1 + 1 = (limbs n).length by omega]
  · have := hr.cap; omega
theorem VN.one' {w : World} {b : Nat} {v : Value} {L : Nat} (h : VN w b v 1 L) : ∃ g o c, v = .slice (some ⟨g, o, none⟩) 1 c ∧ 1 ≤ c ∧ w.cell? ⟨g, o, none⟩ = some (.int .u32 1) := by
  have e : limbs 1 = [1] := by rw [limbs_pos (n := 1) (by decide), limbs_zero]; rfl
  obtain ⟨A, c, rfl, hr, hl, _⟩ := h
  rw [e] at hr hl ⊢
  obtain ⟨g, o, rfl, hc⟩ := hr.cells (by simp)
  exact ⟨g, o, c, rfl, by simpa using hr.cap, by simpa using hc 0 (by simp)⟩

set_option maxHeartbeats 4000000 in
theorem normal_c (w : World) (b1 : Nat) (v1 : Value) (q : Rat) (L : Nat) (h1 : VQ w b1 v1 q L) (hL : L ≤ 1099511627776) :
    Calls Try.prog 32 #[v1] w (Is w (.bool true)) := by
  obtain ⟨m1, d1, rfl, hm1, hd1⟩ := h1
  obtain ⟨hga, hba⟩ := al1 w #[.bool (decide (q.num < 0)), m1, d1] 27
  by_cases h0 : q.num = 0
  · have hs : decide (q.num < 0) = false := by rw [h0]; rfl
    have hden : q.den = 1 := by
      have := q.reduced
      rw [h0] at this
      simpa [Nat.Coprime] using this
    rw [hden] at hd1
    obtain ⟨gd, od, cd, rfl, hcd, hd⟩ := hd1.one'
    rw [h0] at hm1
    have hm1e : ∃ A c, m1 = .slice A 0 c := by
      obtain ⟨A1, c1, hm1e, _⟩ := hm1
      exact ⟨A1, c1, by rw [hm1e]; simp [limbs_zero]⟩
    clear hm1
    obtain ⟨A1, c1, rfl⟩ := hm1e
    rw [hs] at hga hba ⊢
    have HGA := hid hga
    have hdx := Gr.cell hga hd
    clear hs hden hd1 h0 hga hba hd
    go_enter Try.func32, Try.ntmps32
    go_wp2
    go_ret
    exact ⟨rfl, HGA.out⟩
  · have hna : q.num.natAbs ≠ 0 := by omega
    have hdn := q.den_nz
    have hgcd : Nat.gcd q.num.natAbs q.den = 1 := q.reduced
    obtain ⟨s, hs⟩ : ∃ s, s = decide (q.num < 0) := ⟨_, rfl⟩
    obtain ⟨nn, hnn⟩ : ∃ n, n = q.num.natAbs := ⟨_, rfl⟩
    obtain ⟨dd, hdd⟩ : ∃ n, n = q.den := ⟨_, rfl⟩
    rw [← hs] at hga hba ⊢
    rw [← hnn] at hm1 hna hgcd
    rw [← hdd] at hd1 hdn hgcd
    have HM := hid (hm1.gr hga)
    have HD := hid (hd1.gr hga)
    have HM0 := hid hm1
    have HD0 := hid hd1
    obtain ⟨gd, od, cd, ld, xd, rfl, q1, hcd, hcx, hxd, hld⟩ := (hd1.gr hga).top hdn
    obtain ⟨gm, om, cm, lm, xm, rfl, q2, hcm, hmx, hxm, hlm⟩ := (hm1.gr hga).top hna
    have HGC : Hid (∀ V : World, Gr (w.alloc (.cells #[.bool s, .slice (some ⟨gm, om, none⟩) (lm + 1) cm, .slice (some ⟨gd, od, none⟩) (ld + 1) cd] 27)) V → Calls Try.prog 66 #[.slice (some ⟨gm, om, none⟩) (lm + 1) cm, .slice (some ⟨gd, od, none⟩) (ld + 1) cd] V (Ret V fun v w' => VN w' V.heap.size v 1 L)) := fun V hV => by
      have h := gcd_c V _ _ nn dd L (HM.out.gr hV).an (HD.out.gr hV).an hL
      rw [hgcd] at h
      exact h
    have HGA := hid hga
    have HBA := hid hba
    have HMX := hid hmx
    have bd : (xd == 0) = false := by rw [beq_eq_false_iff_ne]; exact hxd
    have bm : (xm != 0) = true := by rw [bne_iff_ne]; exact hxm
    have p1 : ((ld : Int) + 1 == 0) = false := by rw [beq_eq_false_iff_ne]; omega
    have p2 : ((lm : Int) + 1 == 0) = false := by rw [beq_eq_false_iff_ne]; omega
    have p3 : (ld : Int) + 1 - 1 = ld := by omega
    have p4 : (lm : Int) + 1 - 1 = lm := by omega
    have p5 : (ld : Int) < (ld : Int) + 1 := by omega
    have p7 : (ld : Int) ≤ 1099511627776 := by omega
    have p8 : (lm : Int) ≤ 1099511627776 := by omega
    have p9 : (0 : Int) ≤ ld := by omega
    have p10 : (0 : Int) ≤ lm := by omega
    have p6 : (lm : Int) < (lm : Int) + 1 := by omega
    clear h0 hna hdn hgcd hs hnn hdd hm1 hd1 hga hba hxd hxm hmx HM0 HD0 q1 q2 hld hlm
    go_enter Try.func32, Try.ntmps32
    go_wp2_with fail
    refine (HGC.out _ (Gr.refl _)).mono ?_
    rintro e w2 ⟨v2, rfl, hv2, hg2⟩
    obtain ⟨gg, og, cg, rfl, hcg, hgx⟩ := hv2.one'
    have HG := hid (HGA.out.trans hg2)
    have c0 := (HBA.out.gr hg2).c 0 rfl
    have c1 := (HBA.out.gr hg2).c 1 rfl
    have c2 := (HBA.out.gr hg2).c 2 rfl
    have hmy := Gr.cell hg2 HMX.out
    clear hv2 hg2
    go_wp2
    go_ret
    exact ⟨rfl, HG.out⟩
end Go.Proofs.Ytkbgdiejjabdmaa
