/- The walks of the laws' helpers: large, limbs. -/
import Derived.Test.YtkbgdiejjabdmaaRatF
namespace Go.Proofs.Ytkbgdiejjabdmaa
open Go.RowKit

set_option maxHeartbeats 4000000 in
theorem large_c (w : World) (neg : Bool) (A B : Option Addr) (la ca lb cb : Nat) :
    Calls Try.prog 17 #[.agg #[.bool neg, .slice A la ca, .slice B lb cb]] w (Is w (.bool (decide (40 < la) || decide (40 < lb)))) := by
  obtain ⟨b, hb⟩ : ∃ b, b = (decide (40 < la) || decide (40 < lb)) := ⟨_, rfl⟩
  rw [← hb]
  have HB := hid hb
  clear hb
  have hg := Gr.alloc w (.cells #[.bool neg, .slice A la ca, .slice B lb cb] 27)
  have HG := hid hg
  clear hg
  by_cases h1 : (40 : Int) < la
  · have hbt : b = true := by rw [HB.out]; simp; omega
    have HBT := hid hbt
    clear hbt
    go_enter Try.func17, Try.ntmps17
    go_wp2
    go_ret
    exact ⟨by rw [HBT.out]; rfl, HG.out⟩
  · by_cases h2 : (40 : Int) < lb
    · have hbt : b = true := by rw [HB.out]; simp; omega
      have HBT := hid hbt
      clear hbt
      go_enter Try.func17, Try.ntmps17
      go_wp2
      go_ret
      exact ⟨by rw [HBT.out]; rfl, HG.out⟩
    · have hbt : b = false := by rw [HB.out]; simp; omega
      have HBT := hid hbt
      clear hbt
      go_enter Try.func17, Try.ntmps17
      go_wp2
      go_ret
      exact ⟨by rw [HBT.out]; rfl, HG.out⟩

theorem list_eq_getD {x y : List Int} (hl : x.length = y.length) (h : ∀ j, j < x.length → x.getD j 0 = y.getD j 0) : x = y := by
  apply List.ext_getElem hl
  intro i h1 h2
  have := h i h1
  rwa [List.getD_eq_getElem?_getD, List.getD_eq_getElem?_getD, List.getElem?_eq_getElem h1, List.getElem?_eq_getElem h2] at this

set_option maxHeartbeats 4000000 in
theorem limbs_c (w : World) (b1 b2 : Nat) (v1 v2 : Value) (m n L : Nat) (h1 : VN w b1 v1 m L) (h2 : VN w b2 v2 n L) (hL : L ≤ 1099511627776) :
    Calls Try.prog 38 #[v1, v2] w (Is w (.bool (decide (m = n)))) := by
  obtain ⟨A1, c1, rfl, hr1, hl1, _⟩ := h1
  obtain ⟨A2, c2, rfl, hr2, hl2, _⟩ := h2
  obtain ⟨x, hx⟩ : ∃ x, x = limbs m := ⟨_, rfl⟩
  obtain ⟨y, hy⟩ : ∃ y, y = limbs n := ⟨_, rfl⟩
  obtain ⟨b, hb⟩ : ∃ b, b = decide (m = n) := ⟨_, rfl⟩
  rw [← hx] at hr1 hl1 ⊢
  rw [← hy] at hr2 hl2 ⊢
  rw [← hb]
  have hbt : x = y → b = true := fun h => by rw [hb]; exact decide_eq_true (limbs_inj (by rw [← hx, ← hy, h]))
  have hbf : x ≠ y → b = false := fun h => by rw [hb]; exact decide_eq_false (fun h2 => h (by rw [hx, hy, h2]))
  have HBT := hid hbt
  have HBF := hid hbf
  have C1 := hid hr1.cells
  have C2 := hid hr2.cells
  clear hbt hbf hb hx hy hr1 hr2
  by_cases hlen : x.length = y.length
  · have HLEN := hid hlen
    obtain ⟨l, hl⟩ : ∃ l, l = x.length := ⟨_, rfl⟩
    have hl2' : y.length = l := by omega
    have E1 := hid hl
    have E2 := hid hl2'
    rw [← hl] at hl1 ⊢
    rw [hl2']
    have hne : ((l : Int) != (l : Int)) = false := by simp
    clear hl hl2' hlen hl2
    go_enter Try.func38, Try.ntmps38
    go_wp2
    go_loopw [5] (fun i wr => ∃ k : Nat, k ≤ l ∧ i = .int .i64 k ∧ Hid (∀ j, j < k → x.getD j 0 = y.getD j 0) ∧ Dr w wr) (fun i _ => l - (intOf i).toNat)
    case atStart => exact ⟨0, Nat.zero_le _, rfl, fun j h => absurd h (Nat.not_lt_zero _), Dr.refl _⟩
    case round =>
      obtain ⟨k, hk, rfl, HE, d, rfl⟩ := hrel
      by_cases hlt : k < l
      · obtain ⟨g1, o1, rfl, hc1⟩ := C1.out (by have := E1.out; omega)
        obtain ⟨g2, o2, rfl, hc2⟩ := C2.out (by have := E2.out; omega)
        have hx1 : w.cell? ⟨g1, o1 + k, none⟩ = some (.int .u32 (x.getD k 0)) := hc1 _ (by have := E1.out; omega)
        have hx2 : w.cell? ⟨g2, o2 + k, none⟩ = some (.int .u32 (y.getD k 0)) := hc2 _ (by have := E2.out; omega)
        obtain ⟨p, hp⟩ : ∃ p, p = x.getD k 0 := ⟨_, rfl⟩
        obtain ⟨q, hq⟩ : ∃ q, q = y.getD k 0 := ⟨_, rfl⟩
        rw [← hp] at hx1
        rw [← hq] at hx2
        have HP := hid hp
        have HQ := hid hq
        clear hp hq hc1 hc2
        have i0 : 0 ≤ (k : Int) := by omega
        have i1 : (k : Int) < l := by omega
        by_cases hpq : p = q
        · have hpq2 : (p != q) = false := by simp [hpq]
          have HPQ := hid hpq
          clear hpq
          go_wp2
          go_quiet (fail)
          go_wp2
          go_roundw
          case rel =>
            refine ⟨k + 1, by omega, by go_num, fun j hj => ?_, (by repeat (first | exact ⟨_, rfl⟩ | refine Dr.next ?_ _))⟩
            by_cases hjk : j = k
            · subst hjk; rw [← HP.out, ← HQ.out]; exact HPQ.out
            · exact HE.out j (by omega)
          case measure => simp [intOf]; omega
        · have hpq2 : (p != q) = true := by simpa using hpq
          have hr : b = false := HBF.out (fun h => hpq (by rw [HP.out, HQ.out, h]))
          have HR := hid hr
          clear hpq hr
          go_wp2
          go_quiet (fail)
          go_wp2
          go_ret
          exact ⟨by rw [HR.out]; rfl, Dr.gr (by repeat (first | exact Dr.refl _ | exact ⟨_, rfl⟩ | refine Dr.next ?_ _))⟩
      · have hkl : k = l := by omega
        have hr : b = true := HBT.out (list_eq_getD HLEN.out (fun j hj => HE.out j (by have := E1.out; omega)))
        have HR := hid hr
        clear hr
        go_wp2
        go_ret
        exact ⟨by rw [HR.out]; rfl, Dr.gr ⟨_, rfl⟩⟩
  · have hr : b = false := HBF.out (fun h => hlen (by rw [h]))
    have HR := hid hr
    have hne : ((x.length : Int) != (y.length : Int)) = true := by rw [bne_iff_ne]; omega
    clear hr
    go_enter Try.func38, Try.ntmps38
    go_wp2
    go_ret
    exact ⟨by rw [HR.out]; rfl, Gr.refl _⟩

theorem rat_eq_parts (p q : Rat) : p = q ↔ (decide (p.num < 0) = decide (q.num < 0) ∧ p.num.natAbs = q.num.natAbs ∧ p.den = q.den) := by
  constructor
  · rintro rfl; exact ⟨rfl, rfl, rfl⟩
  · rintro ⟨h1, h2, h3⟩
    rw [decide_eq_decide] at h1
    exact Rat.ext (by omega) h3

set_option maxHeartbeats 4000000 in
theorem same_c (w : World) (b1 b2 : Nat) (v1 v2 : Value) (p q : Rat) (L : Nat) (h1 : VQ w b1 v1 p L) (h2 : VQ w b2 v2 q L) (hL : L ≤ 1099511627776) :
    Calls Try.prog 12 #[v1, v2] w (Is w (.bool (decide (p = q)))) := by
  obtain ⟨m1, d1, rfl, hm1, hd1⟩ := h1
  obtain ⟨m2, d2, rfl, hm2, hd2⟩ := h2
  obtain ⟨b, hb⟩ : ∃ b, b = decide (p = q) := ⟨_, rfl⟩
  obtain ⟨s1, hs1⟩ : ∃ s, s = decide (p.num < 0) := ⟨_, rfl⟩
  obtain ⟨s2, hs2⟩ : ∃ s, s = decide (q.num < 0) := ⟨_, rfl⟩
  obtain ⟨e1, he1⟩ : ∃ s, s = decide (p.num.natAbs = q.num.natAbs) := ⟨_, rfl⟩
  obtain ⟨e2, he2⟩ : ∃ s, s = decide (p.den = q.den) := ⟨_, rfl⟩
  have hbe : b = ((s1 == s2) && e1 && e2) := by
    rw [hb, hs1, hs2, he1, he2, Bool.eq_iff_iff, decide_eq_true_iff, rat_eq_parts]
    simp [and_assoc]
  have HLM : Hid (∀ V : World, VN V b1 m1 p.num.natAbs L → VN V b2 m2 q.num.natAbs L → Calls Try.prog 38 #[m1, m2] V (Is V (.bool e1))) := fun V a c => by
    have h := limbs_c V b1 b2 m1 m2 _ _ L a c hL
    rw [← he1] at h
    exact h
  have HLD : Hid (∀ V : World, VN V b1 d1 p.den L → VN V b2 d2 q.den L → Calls Try.prog 38 #[d1, d2] V (Is V (.bool e2))) := fun V a c => by
    have h := limbs_c V b1 b2 d1 d2 _ _ L a c hL
    rw [← he2] at h
    exact h
  rw [← hb, ← hs1, ← hs2]
  have HBE := hid hbe
  clear hbe hb hs1 hs2 he1 he2
  obtain ⟨hga, hba1, hba2⟩ := al2 w #[.bool s1, m1, d1] #[.bool s2, m2, d2] 27 27
  have HM1 := hid (hm1.gr hga)
  have HM2 := hid (hm2.gr hga)
  have HD1 := hid (hd1.gr hga)
  have HD2 := hid (hd2.gr hga)
  have HGA := hid hga
  have HBA1 := hid hba1
  have HBA2 := hid hba2
  clear hm1 hm2 hd1 hd2 hga hba1 hba2
  by_cases hss : s1 = s2
  · subst hss
    cases e1 with
    | false =>
      have hr : b = false := by rw [HBE.out]; simp
      have HR := hid hr
      clear hr
      go_enter Try.func12, Try.ntmps12
      go_wp2_with fail
      refine (HLM.out _ HM1.out HM2.out).mono ?_
      rintro e w1 ⟨rfl, hg1⟩
      have HG := hid (HGA.out.trans hg1)
      clear hg1
      go_wp2
      go_ret
      exact ⟨by rw [HR.out]; rfl, HG.out⟩
    | true =>
      have hr : b = e2 := by rw [HBE.out]; simp
      have HR := hid hr
      clear hr
      go_enter Try.func12, Try.ntmps12
      go_wp2_with fail
      refine (HLM.out _ HM1.out HM2.out).mono ?_
      rintro e w1 ⟨rfl, hg1⟩
      have HG1 := hid hg1
      have c2 := (HBA1.out.gr HG1.out).c 2 rfl
      have c3 := (HBA2.out.gr HG1.out).c 2 rfl
      clear hg1
      go_wp2_with fail
      refine (HLD.out _ (HD1.out.gr HG1.out) (HD2.out.gr HG1.out)).mono ?_
      rintro e w2 ⟨rfl, hg2⟩
      have HG := hid ((HGA.out.trans HG1.out).trans hg2)
      clear hg2
      cases e2
      all_goals
        go_wp2
        go_ret
        exact ⟨by rw [HR.out]; rfl, HG.out⟩
  · have hq : (s1 == s2) = false := by simpa using hss
    have hr : b = false := by rw [HBE.out, hq]; rfl
    have HR := hid hr
    clear hr
    go_enter Try.func12, Try.ntmps12
    go_wp2
    go_ret
    exact ⟨by rw [HR.out]; rfl, HGA.out⟩
end Go.Proofs.Ytkbgdiejjabdmaa
