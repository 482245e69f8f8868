/- The walk of same, and of the examples that every law of integers checks. -/
import Derived.Test.YtkbgdiejjabdmaaDoorIzA
import Derived.Test.YtkbgdiejjabdmaaDoorIntD
import Derived.Test.YtkbgdiejjabdmaaDoorRhA
import Derived.Test.YtkbgdiejjabdmaaDoorIntB
import Derived.Test.YtkbgdiejjabdmaaDoorSmA
import Derived.Deep.Cut
namespace Go.Proofs.YtkbgdiejjabdmaaDoor
open Go.RowKit

theorem int_eq_parts (x y : Int) : x = y ↔ (decide (x < 0) = decide (y < 0) ∧ x.natAbs = y.natAbs) := by
  constructor
  · rintro rfl; exact ⟨rfl, rfl⟩
  · rintro ⟨h1, h2⟩
    rw [decide_eq_decide] at h1
    omega

set_option maxHeartbeats 4000000 in
theorem zsame_c (w : World) (b1 b2 : Nat) (v1 v2 : Value) (p q : Int) (L : Nat) (h1 : VZ w b1 v1 p L) (h2 : VZ w b2 v2 q L) (hL : L ≤ 1099511627776) :
    Calls Tryd.prog 52 #[v1, v2] w (Is w (.bool (decide (p = q)))) := by
  obtain ⟨m1, rfl, A1, c1, rfl, hr1, hl1, _⟩ := h1
  obtain ⟨m2, rfl, A2, c2, rfl, hr2, hl2, _⟩ := h2
  obtain ⟨x, hx⟩ : ∃ x, x = limbs p.natAbs := ⟨_, rfl⟩
  obtain ⟨y, hy⟩ : ∃ y, y = limbs q.natAbs := ⟨_, rfl⟩
  obtain ⟨s1, hs1⟩ : ∃ s, s = decide (p < 0) := ⟨_, rfl⟩
  obtain ⟨s2, hs2⟩ : ∃ s, s = decide (q < 0) := ⟨_, rfl⟩
  obtain ⟨b, hb⟩ : ∃ b, b = decide (p = q) := ⟨_, rfl⟩
  rw [← hx] at hr1 hl1 ⊢
  rw [← hy] at hr2 hl2 ⊢
  rw [← hb, ← hs1, ← hs2]
  have hbt : s1 = s2 → x = y → b = true := fun h0 h => by
    rw [hb]
    exact decide_eq_true ((int_eq_parts p q).2 ⟨by rw [← hs1, ← hs2]; exact h0, limbs_inj (by rw [← hx, ← hy]; exact h)⟩)
  have hbf : (s1 ≠ s2 ∨ x ≠ y) → b = false := fun h => by
    rw [hb]
    refine decide_eq_false (fun h2 => ?_)
    subst h2
    rcases h with h | h
    · exact h (by rw [hs1, hs2])
    · exact h (by rw [hx, hy])
  have HBT := hid hbt
  have HBF := hid hbf
  obtain ⟨l1, hlx⟩ : ∃ l, l = x.length := ⟨_, rfl⟩
  obtain ⟨l2, hly⟩ : ∃ l, l = y.length := ⟨_, rfl⟩
  rw [← hlx] at hl1 ⊢
  rw [← hly] at hl2 ⊢
  have E1 := hid hlx
  have E2 := hid hly
  obtain ⟨W, hW⟩ : ∃ V, V = (w.alloc (.cells #[.bool s1, .slice A1 l1 c1] 51)).alloc (.cells #[.bool s2, .slice A2 l2 c2] 51) := ⟨_, rfl⟩
  obtain ⟨hg, bb1, bb2⟩ := al2 w #[.bool s1, .slice A1 l1 c1] #[.bool s2, .slice A2 l2 c2] 51 51
  rw [← hW] at hg bb1 bb2
  have C1 := hid hr1.cells
  have C2 := hid hr2.cells
  have HG := hid hg
  have HW := hid hW
  have p0 : W.cell? ⟨w.heap.size, 0, none⟩ = some (.bool s1) := bb1.c 0 rfl
  have p1 : W.cell? ⟨w.heap.size, 1, none⟩ = some (.slice A1 l1 c1) := bb1.c 1 rfl
  have q0 : W.cell? ⟨w.heap.size + 1, 0, none⟩ = some (.bool s2) := bb2.c 0 rfl
  have q1 : W.cell? ⟨w.heap.size + 1, 1, none⟩ = some (.slice A2 l2 c2) := bb2.c 1 rfl
  clear hbt hbf hb hx hy hr1 hr2 hs1 hs2 hg bb1 bb2 hlx hly hW
  by_cases hss : s1 = s2
  · subst hss
    by_cases hlen : l1 = l2
    · subst hlen
      have hne : ((l1 : Int) != (l1 : Int)) = false := by simp
      go_enter Tryd.func52, Tryd.ntmps52
      go_upto_region 1 with (fail)
      rw [← HW.out]
      go_wp2
      go_loopw [23] (fun i wr => ∃ k : Nat, k ≤ l1 ∧ i = .int .i64 k ∧ Hid (∀ j, j < k → x.getD j 0 = y.getD j 0) ∧ Dr W wr) (fun i _ => l1 - (intOf i).toNat)
      case atStart => exact ⟨0, Nat.zero_le _, rfl, fun j h => absurd h (Nat.not_lt_zero _), Dr.refl _⟩
      case round =>
        obtain ⟨k, hk, rfl, HE, d, rfl⟩ := hrel
        by_cases hlt : k < l1
        · obtain ⟨g1, o1, rfl, hc1⟩ := C1.out (by have := E1.out; omega)
          obtain ⟨g2, o2, rfl, hc2⟩ := C2.out (by have := E2.out; omega)
          have hx1 : W.cell? ⟨g1, o1 + k, none⟩ = some (.int .u32 (x.getD k 0)) := Gr.cell HG.out (hc1 _ (by have := E1.out; omega))
          have hx2 : W.cell? ⟨g2, o2 + k, none⟩ = some (.int .u32 (y.getD k 0)) := Gr.cell HG.out (hc2 _ (by have := E2.out; omega))
          obtain ⟨u, hp⟩ : ∃ p, p = x.getD k 0 := ⟨_, rfl⟩
          obtain ⟨v, hq⟩ : ∃ q, q = y.getD k 0 := ⟨_, rfl⟩
          rw [← hp] at hx1
          rw [← hq] at hx2
          have HP := hid hp
          have HQ := hid hq
          clear hp hq hc1 hc2
          have i0 : 0 ≤ (k : Int) := by omega
          have i1 : (k : Int) < l1 := by omega
          by_cases hpq : u = v
          · have hpq2 : (u != v) = false := by simp [hpq]
            have HPQ := hid hpq
            clear hpq
            go_wp2
            go_quiet (fail)
            go_wp2
            go_roundw
            case rel =>
              refine ⟨k + 1, by omega, by go_num, fun j hj => ?_, (by repeat (first | exact ⟨_, rfl⟩ | refine Dr.next ?_ _))⟩
              by_cases hjk : j = k
              · subst hjk; rw [← HP.out, ← HQ.out]; exact HPQ.out
              · exact HE.out j (by omega)
            case measure => simp [intOf]; omega
          · have hpq2 : (u != v) = true := by simpa using hpq
            have hr : b = false := HBF.out (.inr (fun h => hpq (by rw [HP.out, HQ.out, h])))
            have HR := hid hr
            clear hpq hr
            go_wp2
            go_quiet (fail)
            go_wp2
            go_ret
            exact ⟨by rw [HR.out]; rfl, HG.out.trans (Dr.gr (by repeat (first | exact Dr.refl _ | exact ⟨_, rfl⟩ | refine Dr.next ?_ _)))⟩
        · have hkl : k = l1 := by omega
          have hr : b = true := HBT.out (by simp) (list_eq_getD (by rw [← E1.out, ← E2.out]) (fun j hj => HE.out j (by have := E1.out; omega)))
          have HR := hid hr
          clear hr
          go_wp2
          go_ret
          exact ⟨by rw [HR.out]; rfl, HG.out.trans (Dr.gr ⟨_, rfl⟩)⟩
    · have hr : b = false := HBF.out (.inr (fun h => hlen (by rw [E1.out, E2.out, h])))
      have HR := hid hr
      have hne : ((l1 : Int) != (l2 : Int)) = true := by rw [bne_iff_ne]; omega
      clear hr
      go_enter Tryd.func52, Tryd.ntmps52
      go_upto_region 1 with (fail)
      rw [← HW.out]
      go_wp2
      go_ret
      exact ⟨by rw [HR.out]; rfl, HG.out⟩
  · have hr : b = false := HBF.out (.inl hss)
    have HR := hid hr
    clear hr
    cases s1
    all_goals cases s2
    all_goals first
      | exact absurd rfl hss
      | (clear hss
         go_enter Tryd.func52, Tryd.ntmps52
         go_upto_region 1 with (fail)
         rw [← HW.out]
         go_wp2
         go_ret
         exact ⟨by rw [HR.out]; rfl, HG.out⟩)
theorem zsame_t (w : World) (b1 b2 : Nat) (v1 v2 : Value) (p : Int) (L : Nat) (h1 : VZ w b1 v1 p L) (h2 : VZ w b2 v2 p L) (hL : L ≤ 1099511627776) :
    Calls Tryd.prog 52 #[v1, v2] w (Is w (.bool true)) := by
  have h := zsame_c w b1 b2 v1 v2 p p L h1 h2 hL
  rw [decide_eq_true rfl] at h
  exact h
theorem itoa_m4 : Lib.itoa (-4) = [45, 52] := by
  rw [itoa_neg' (by decide)]
  show 45 :: Lib.decDigits 4 = _
  rw [dec_small (by decide)]; rfl
theorem itoa_1 : Lib.itoa 1 = [49] := by
  rw [itoa_pos' (by decide)]
  show Lib.decDigits 1 = _
  rw [dec_small (by decide)]; rfl
theorem itoa_m12 : Lib.itoa (-12) = [45, 49, 50] := by
  rw [itoa_neg' (by decide)]
  show 45 :: Lib.decDigits 12 = _
  rw [dec_big (by decide), show 12 / 10 = 1 by decide, dec_small (by decide)]; rfl

set_option maxRecDepth 100000 in
set_option maxHeartbeats 8000000 in
theorem awake2_c (w : World) (ht : Tab w) : Calls Tryd.prog 55 #[] w (Is w (.bool true)) := by
  have HT := hid ht
  have HOm7 : Hid (∀ V : World, Calls Tryd.prog 57 #[.int .i64 (-7)] V (Ret V fun v w' => VZ w' V.heap.size v (-7) 2)) := fun V => zof_c V (-7) (by decide) (by decide)
  have HO2 : Hid (∀ V : World, Calls Tryd.prog 57 #[.int .i64 (2)] V (Ret V fun v w' => VZ w' V.heap.size v (2) 2)) := fun V => zof_c V (2) (by decide) (by decide)
  have HOm4 : Hid (∀ V : World, Calls Tryd.prog 57 #[.int .i64 (-4)] V (Ret V fun v w' => VZ w' V.heap.size v (-4) 2)) := fun V => zof_c V (-4) (by decide) (by decide)
  have HOm4294967296 : Hid (∀ V : World, Calls Tryd.prog 57 #[.int .i64 (-4294967296)] V (Ret V fun v w' => VZ w' V.heap.size v (-4294967296) 2)) := fun V => zof_c V (-4294967296) (by decide) (by decide)
  have HPm4 : Hid (∀ (V : World) (v : Value), Tab V → AZ V v (-4) 400 → Calls Tryd.prog 53 #[v] V (Is V (.string ⟨#[45, 52]⟩))) := fun V v h1 h2 => by
    have h := zprint_c V v (-4) 400 h2 (by decide) h1
    rw [itoa_m4] at h
    exact h
  have HP1 : Hid (∀ (V : World) (v : Value), Tab V → AZ V v (1) 400 → Calls Tryd.prog 53 #[v] V (Is V (.string ⟨#[49]⟩))) := fun V v h1 h2 => by
    have h := zprint_c V v (1) 400 h2 (by decide) h1
    rw [itoa_1] at h
    exact h
  have HPm12 : Hid (∀ (V : World) (v : Value), Tab V → AZ V v (-12) 400 → Calls Tryd.prog 53 #[v] V (Is V (.string ⟨#[45, 49, 50]⟩))) := fun V v h1 h2 => by
    have h := zprint_c V v (-12) 400 h2 (by decide) h1
    rw [itoa_m12] at h
    exact h
  have HDM : Hid (∀ (V : World) (x y : Value), AZ V x (-7) 2 → AZ V y 2 2 → Calls Tryd.prog 68 #[x, y] V (RetVB V true fun u v w' => VZ w' V.heap.size u (-4) 3 ∧ VZ w' V.heap.size v 1 2)) := fun V x y h1 h2 => zdivmod_c V x y (-7) 2 2 h1 h2 (by decide) (by decide)
  have HZP : Hid (∀ V : World, Calls Tryd.prog 50 #[.string ⟨#[45, 49, 50]⟩] V (RetE V 0 fun v w' => VZ w' V.heap.size v (-12) 400)) := fun V => by
    have h := zparse_c V ⟨#[45, 49, 50]⟩ (by decide)
    rw [show zErr (ByteArray.mk #[45, 49, 50]).data.toList = 0 from by decide +kernel, show zVal (ByteArray.mk #[45, 49, 50]).data.toList = -12 from by decide +kernel] at h
    exact h
  have HMU : Hid (∀ (V : World) (x y : Value), AZ V x (-4) 2 → AZ V y (-4294967296) 2 → Calls Tryd.prog 70 #[x, y] V (Ret V fun v w' => VZ w' V.heap.size v 17179869184 4)) := fun V x y h1 h2 => zmul_c V x y (-4) (-4294967296) 2 2 h1 h2 (by decide) (by decide)
  have HI6 : Hid (∀ (V : World) (x : Value), AZ V x 17179869184 4 → Calls Tryd.prog 56 #[x] V (Is V (.tuple #[.int .i64 17179869184, .bool true]))) := fun V x h1 => by
    have h := zint64_c V x 17179869184 4 h1 (by decide)
    rw [show i64N 17179869184 = 17179869184 from by decide +kernel, show i64B 17179869184 = true from by decide +kernel] at h
    exact h
  have HCM : Hid (∀ (V : World) (x y : Value), AZ V x (-12) 400 → AZ V y 1 400 → Calls Tryd.prog 71 #[x, y] V (Is V (.int .i64 (-1)))) := fun V x y h1 h2 => by
    have h := zcmp_c V x y (-12) 1 400 400 h1 h2 (by decide) (by decide)
    rw [show cmpZ (-12) 1 = -1 from by decide +kernel] at h
    exact h
  clear ht
  go_enter Tryd.func55, Tryd.ntmps55
  go_wp2_with fail
  refine (HOm7.out w).mono ?_
  rintro e w1 ⟨v, rfl, hv, hg⟩
  have HA := hid hv
  have HG := hid hg
  clear hg hv
  go_wp2_with fail
  refine (HO2.out w1).mono ?_
  rintro e w2 ⟨v, rfl, hv, hg⟩
  replace HA := hid (HA.out.gr hg)
  have HB := hid hv
  replace HG := hid (HG.out.trans hg)
  clear hg hv
  go_wp2_with fail
  refine (HDM.out w2 _ _ HA.out.az HB.out.az).mono ?_
  rintro e w3 ⟨v, v2, rfl, ⟨hv1, hv2⟩, hg⟩
  replace HA := hid (HA.out.gr hg)
  replace HB := hid (HB.out.gr hg)
  replace HG := hid (HG.out.trans hg)
  clear hg
  clear HA
  clear HB
  obtain ⟨Aq, lq, cq, rfl, hv1⟩ := hv1.form
  obtain ⟨sq, hsq⟩ : ∃ b, b = decide ((-4 : Int) < 0) := ⟨_, rfl⟩
  rw [← hsq] at hv1 ⊢
  clear hsq
  have Kq := hid hv1
  clear hv1
  obtain ⟨Ar, lr, cr, rfl, hv2⟩ := hv2.form
  obtain ⟨sr, hsr⟩ : ∃ b, b = decide ((1 : Int) < 0) := ⟨_, rfl⟩
  rw [← hsr] at hv2 ⊢
  clear hsr
  have Kr := hid hv2
  clear hv2
  obtain ⟨W3, hW⟩ : ∃ V, V = (w3.alloc (.cells #[.bool sq, .slice Aq lq cq] 51)).alloc (.cells #[.bool sr, .slice Ar lr cr] 51) := ⟨_, rfl⟩
  go_upto_region 2 with (fail)
  obtain ⟨hg, bb0, bb1⟩ := al2 w3 #[.bool sq, .slice Aq lq cq] #[.bool sr, .slice Ar lr cr] 51 51
  rw [← hW] at hg bb0 bb1 ⊢
  clear hW
  replace Kq := hid (Kq.out.gr hg)
  have kq0 : W3.cell? ⟨w3.heap.size, 0, none⟩ = some (.bool sq) := bb0.c 0 rfl
  have kq1 : W3.cell? ⟨w3.heap.size, 1, none⟩ = some (.slice Aq lq cq) := bb0.c 1 rfl
  replace Kr := hid (Kr.out.gr hg)
  have kr0 : W3.cell? ⟨w3.heap.size + 1, 0, none⟩ = some (.bool sr) := bb1.c 0 rfl
  have kr1 : W3.cell? ⟨w3.heap.size + 1, 1, none⟩ = some (.slice Ar lr cr) := bb1.c 1 rfl
  replace HG := hid (HG.out.trans hg)
  clear hg bb0 bb1
  go_wp2_with fail
  refine (HZP.out W3).mono ?_
  rintro e w4 ⟨v, rfl, hv, hg⟩
  replace Kq := hid (Kq.out.gr hg)
  replace Kr := hid (Kr.out.gr hg)
  replace HG := hid (HG.out.trans hg)
  replace kq0 := Gr.cell hg kq0
  replace kq1 := Gr.cell hg kq1
  replace kr0 := Gr.cell hg kr0
  replace kr1 := Gr.cell hg kr1
  clear hg
  obtain ⟨An, ln, cn, rfl, hv⟩ := hv.form
  obtain ⟨sn, hsn⟩ : ∃ b, b = decide ((-12 : Int) < 0) := ⟨_, rfl⟩
  rw [← hsn] at hv ⊢
  clear hsn
  have Kn := hid hv
  clear hv
  obtain ⟨W4, hW⟩ : ∃ V, V = w4.alloc (.cells #[.bool sn, .slice An ln cn] 51) := ⟨_, rfl⟩
  go_upto_region 3 with (fail)
  obtain ⟨hg, bb0⟩ := al1 w4 #[.bool sn, .slice An ln cn] 51
  rw [← hW] at hg bb0 ⊢
  clear hW
  replace Kq := hid (Kq.out.gr hg)
  replace Kr := hid (Kr.out.gr hg)
  replace kq0 := Gr.cell hg kq0
  replace kq1 := Gr.cell hg kq1
  replace kr0 := Gr.cell hg kr0
  replace kr1 := Gr.cell hg kr1
  replace Kn := hid (Kn.out.gr hg)
  have kn0 : W4.cell? ⟨w4.heap.size, 0, none⟩ = some (.bool sn) := bb0.c 0 rfl
  have kn1 : W4.cell? ⟨w4.heap.size, 1, none⟩ = some (.slice An ln cn) := bb0.c 1 rfl
  replace HG := hid (HG.out.trans hg)
  clear hg bb0
  go_wp2_with fail
  refine (HOm4.out W4).mono ?_
  rintro e w5 ⟨v, rfl, hv, hg⟩
  replace Kq := hid (Kq.out.gr hg)
  replace Kr := hid (Kr.out.gr hg)
  replace Kn := hid (Kn.out.gr hg)
  have HA := hid hv
  replace HG := hid (HG.out.trans hg)
  replace kq0 := Gr.cell hg kq0
  replace kq1 := Gr.cell hg kq1
  replace kr0 := Gr.cell hg kr0
  replace kr1 := Gr.cell hg kr1
  replace kn0 := Gr.cell hg kn0
  replace kn1 := Gr.cell hg kn1
  clear hg hv
  go_wp2_with fail
  refine (HOm4294967296.out w5).mono ?_
  rintro e w6 ⟨v, rfl, hv, hg⟩
  replace Kq := hid (Kq.out.gr hg)
  replace Kr := hid (Kr.out.gr hg)
  replace Kn := hid (Kn.out.gr hg)
  replace HA := hid (HA.out.gr hg)
  have HB := hid hv
  replace HG := hid (HG.out.trans hg)
  replace kq0 := Gr.cell hg kq0
  replace kq1 := Gr.cell hg kq1
  replace kr0 := Gr.cell hg kr0
  replace kr1 := Gr.cell hg kr1
  replace kn0 := Gr.cell hg kn0
  replace kn1 := Gr.cell hg kn1
  clear hg hv
  go_wp2_with fail
  refine (HMU.out w6 _ _ HA.out.az HB.out.az).mono ?_
  rintro e w7 ⟨v, rfl, hv, hg⟩
  replace Kq := hid (Kq.out.gr hg)
  replace Kr := hid (Kr.out.gr hg)
  replace Kn := hid (Kn.out.gr hg)
  replace HA := hid (HA.out.gr hg)
  replace HB := hid (HB.out.gr hg)
  have HC := hid hv
  replace HG := hid (HG.out.trans hg)
  replace kq0 := Gr.cell hg kq0
  replace kq1 := Gr.cell hg kq1
  replace kr0 := Gr.cell hg kr0
  replace kr1 := Gr.cell hg kr1
  replace kn0 := Gr.cell hg kn0
  replace kn1 := Gr.cell hg kn1
  clear hg hv
  clear HA
  clear HB
  go_wp2_with fail
  refine (HI6.out w7 _ HC.out.az).mono ?_
  rintro e w8 ⟨rfl, hg⟩
  replace Kq := hid (Kq.out.gr hg)
  replace Kr := hid (Kr.out.gr hg)
  replace Kn := hid (Kn.out.gr hg)
  replace HC := hid (HC.out.gr hg)
  replace HG := hid (HG.out.trans hg)
  replace kq0 := Gr.cell hg kq0
  replace kq1 := Gr.cell hg kq1
  replace kr0 := Gr.cell hg kr0
  replace kr1 := Gr.cell hg kr1
  replace kn0 := Gr.cell hg kn0
  replace kn1 := Gr.cell hg kn1
  clear hg
  clear HC
  go_wp2_with fail
  refine (HPm4.out w8 _ (HT.out.gr HG.out) (Kq.out.le (by decide)).az).mono ?_
  rintro e w9 ⟨rfl, hg⟩
  replace Kq := hid (Kq.out.gr hg)
  replace Kr := hid (Kr.out.gr hg)
  replace Kn := hid (Kn.out.gr hg)
  replace HG := hid (HG.out.trans hg)
  replace kq0 := Gr.cell hg kq0
  replace kq1 := Gr.cell hg kq1
  replace kr0 := Gr.cell hg kr0
  replace kr1 := Gr.cell hg kr1
  replace kn0 := Gr.cell hg kn0
  replace kn1 := Gr.cell hg kn1
  clear hg
  go_wp2_with fail
  refine (HP1.out w9 _ (HT.out.gr HG.out) (Kr.out.le (by decide)).az).mono ?_
  rintro e w10 ⟨rfl, hg⟩
  replace Kq := hid (Kq.out.gr hg)
  replace Kr := hid (Kr.out.gr hg)
  replace Kn := hid (Kn.out.gr hg)
  replace HG := hid (HG.out.trans hg)
  replace kq0 := Gr.cell hg kq0
  replace kq1 := Gr.cell hg kq1
  replace kr0 := Gr.cell hg kr0
  replace kr1 := Gr.cell hg kr1
  replace kn0 := Gr.cell hg kn0
  replace kn1 := Gr.cell hg kn1
  clear hg
  go_wp2_with fail
  refine (HPm12.out w10 _ (HT.out.gr HG.out) Kn.out.az).mono ?_
  rintro e w11 ⟨rfl, hg⟩
  replace Kq := hid (Kq.out.gr hg)
  replace Kr := hid (Kr.out.gr hg)
  replace Kn := hid (Kn.out.gr hg)
  replace HG := hid (HG.out.trans hg)
  replace kq0 := Gr.cell hg kq0
  replace kq1 := Gr.cell hg kq1
  replace kr0 := Gr.cell hg kr0
  replace kr1 := Gr.cell hg kr1
  replace kn0 := Gr.cell hg kn0
  replace kn1 := Gr.cell hg kn1
  clear hg
  go_wp2_with fail
  refine (HCM.out w11 _ _ Kn.out.az (Kr.out.le (by decide)).az).mono ?_
  rintro e w12 ⟨rfl, hg⟩
  replace Kq := hid (Kq.out.gr hg)
  replace Kr := hid (Kr.out.gr hg)
  replace Kn := hid (Kn.out.gr hg)
  replace HG := hid (HG.out.trans hg)
  replace kq0 := Gr.cell hg kq0
  replace kq1 := Gr.cell hg kq1
  replace kr0 := Gr.cell hg kr0
  replace kr1 := Gr.cell hg kr1
  replace kn0 := Gr.cell hg kn0
  replace kn1 := Gr.cell hg kn1
  clear hg
  go_wp2
  go_ret
  exact ⟨rfl, HG.out⟩
end Go.Proofs.YtkbgdiejjabdmaaDoor
