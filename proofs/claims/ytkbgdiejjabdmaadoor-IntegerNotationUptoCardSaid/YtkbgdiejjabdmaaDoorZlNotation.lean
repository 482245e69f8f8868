/- The walk of the law IntegerNotation. -/
import Derived.Test.YtkbgdiejjabdmaaDoorIzB
import Derived.Test.YtkbgdiejjabdmaaDoorIntC
import Derived.Test.YtkbgdiejjabdmaaDoorRhA
import Derived.Test.YtkbgdiejjabdmaaDoorIzW
import Derived.Deep.Cut
import Derived.Deep.RegionHeld3
namespace Go.Proofs.YtkbgdiejjabdmaaDoor
open Go.RowKit

theorem dec_head45 (n : Nat) : (Lib.decDigits n).head? ≠ some 45 := by
  intro h
  have h2 := dec_all n
  rw [List.all_eq_true] at h2
  have h3 := h2 45 (List.mem_of_head? h)
  exact absurd h3 (by decide)
theorem zErr_itoa (a : Int) : zErr (Lib.itoa a) = if 400 < (Lib.decDigits a.natAbs).length then 5 else 0 := by
  by_cases h : a < 0
  · rw [itoa_neg' h]
    unfold zErr
    rw [if_pos (by rfl)]
    show (if pErr (Lib.decDigits a.natAbs) = 0 then (if pVal (Lib.decDigits a.natAbs) = 0 then 2 else 0) else pErr (Lib.decDigits a.natAbs)) = _
    by_cases h4 : 400 < (Lib.decDigits a.natAbs).length
    · rw [dec_err, if_pos h4, if_neg (by decide)]
    · rw [dec_pval (by omega), dec_err, if_neg h4, if_pos rfl, if_neg (by omega)]
  · rw [itoa_pos' h]
    unfold zErr
    rw [if_neg (dec_head45 _), dec_err]
theorem zVal_itoa {a : Int} (h4 : ¬ 400 < (Lib.decDigits a.natAbs).length) : zVal (Lib.itoa a) = a := by
  have he := zErr_itoa a
  rw [if_neg h4] at he
  unfold zVal
  rw [if_pos he]
  by_cases h : a < 0
  · rw [itoa_neg' h, if_pos (by rfl)]
    show -(pVal (Lib.decDigits a.natAbs) : Int) = a
    rw [dec_pval (by omega)]; omega
  · rw [itoa_pos' h, if_neg (dec_head45 _), dec_pval (by omega)]; omega
theorem itoa_zparse {l : List UInt8} (h : zErr l = 0) : Lib.itoa (zVal l) = l := by
  unfold zVal
  rw [if_pos h]
  unfold zErr at h
  by_cases h45 : l.head? = some 45
  · rw [if_pos h45] at h ⊢
    by_cases hp : pErr l.tail = 0
    · rw [if_pos hp] at h
      by_cases hv : pVal l.tail = 0
      · rw [if_pos hv] at h; cases h
      · rw [itoa_neg' (by omega), show (-(pVal l.tail : Int)).natAbs = pVal l.tail by omega, dec_parse hp]
        cases l with
        | nil => simp at h45
        | cons c r => simp at h45; rw [h45]; rfl
    · rw [if_neg hp] at h; exact absurd h hp
  · rw [if_neg h45] at h ⊢
    rw [itoa_pos' (by omega), Int.natAbs_natCast, dec_parse h]

set_option maxRecDepth 100000 in
set_option maxHeartbeats 16000000 in
theorem integernotation_law (W : World) (ht : Tab W) {s1 : Bool} {A1 : Option Addr} {l1 c1 n1 : Nat} (h1 : AN W (.slice A1 l1 c1) n1 1048576) {s : ByteArray} (hs : s.size ≤ 1048576) {n : Int} (hn0 : -9223372036854775808 ≤ n) (hn1 : n ≤ 9223372036854775807) : Calls Tryd.prog 13 #[.agg #[.bool s1, .slice A1 l1 c1], .string s, .int .i64 n] W (Is W (.bool true)) := by
  have HT := hid ht
  obtain ⟨a, hz1⟩ : ∃ z, z = sgnd s1 n1 := ⟨_, rfl⟩
  have KA : Hid (AZ W (.agg #[.bool s1, .slice A1 l1 c1]) a 1048576) := ⟨s1, _, n1, rfl, h1, hz1⟩
  have HAN := hid h1
  have hna : a.natAbs = n1 := by rw [hz1]; unfold sgnd; cases s1 <;> simp
  have hln : (limbs n1).length ≤ 1048576 := by
    obtain ⟨A, c, xs, _, hr, hv, hl⟩ := h1
    rw [← hv]
    exact Nat.le_trans (limbs_val_le hr.lim) hl
  have hdl := dec_bound hln n1 (Nat.le_refl _)
  have hze := zErr_itoa a
  have hzv := zVal_itoa (a := a)
  rw [hna] at hze hzv
  obtain ⟨S, hS⟩ : ∃ S : ByteArray, S = ⟨(Lib.itoa a).toArray⟩ := ⟨_, rfl⟩
  obtain ⟨T, hT⟩ : ∃ S : ByteArray, S = ⟨(Lib.decDigits n1).toArray⟩ := ⟨_, rfl⟩
  have hTz : T.size = (Lib.decDigits n1).length := by rw [hT]; show (Lib.decDigits n1).toArray.size = _; simp
  have hSl : S.data.toList = Lib.itoa a := by rw [hS]
  have hSz : S.size ≤ 1099511627776 := by
    have h2 : S.size = (Lib.itoa a).length := by rw [hS]; show (Lib.itoa a).toArray.size = _; simp
    rw [h2]
    by_cases h : a < 0
    · rw [itoa_neg' h, hna, List.length_cons]; omega
    · rw [itoa_pos' h, hna]; omega
  have HPR : Hid (∀ (V : World) (v : Value), Tab V → AZ V v a 1048576 → Calls Tryd.prog 53 #[v] V (Is V (.string S))) := fun V v h1 h2 => by rw [hS]; exact zprint_c V v a 1048576 h2 (by decide) h1
  have HPX : Hid (∀ (V : World) (v : Value), AN V v n1 1048576 → Calls Tryd.prog 48 #[v] V (Is V (.string T))) := fun V v h2 => by rw [hT]; exact xprint_c V v n1 1048576 h2 (by decide)
  obtain ⟨ea, hea⟩ : ∃ e, e = zErr (Lib.itoa a) := ⟨_, rfl⟩
  obtain ⟨va, hva⟩ : ∃ e, e = zVal (Lib.itoa a) := ⟨_, rfl⟩
  have HPA : Hid (∀ V : World, Calls Tryd.prog 50 #[.string S] V (RetE V ea fun v w' => VZ w' V.heap.size v va 400)) := fun V => by
    rw [hea, hva, ← hSl]; exact zparse_c V S hSz
  obtain ⟨e2, he2⟩ : ∃ e, e = zErr s.data.toList := ⟨_, rfl⟩
  obtain ⟨z2, hz2⟩ : ∃ e, e = zVal s.data.toList := ⟨_, rfl⟩
  have HP2 : Hid (∀ V : World, Calls Tryd.prog 50 #[.string s] V (RetE V e2 fun v w' => VZ w' V.heap.size v z2 400)) := fun V => by
    rw [he2, hz2]; exact zparse_c V s (by omega)
  have HPS : Hid (e2 = 0 → ∀ (V : World) (x : Value), Tab V → AZ V x z2 400 → Calls Tryd.prog 53 #[x] V (Is V (.string s))) := fun h0 V x h1 h2 => by
    have h := zprint_c V x z2 400 h2 (by decide) h1
    rw [hz2, itoa_zparse (by rw [← he2]; exact h0)] at h
    have h4 : (ByteArray.mk s.data.toList.toArray) = s := by rw [Array.toArray_toList]
    rw [h4] at h
    exact h
  rw [← hea] at hze
  rw [← hva] at hzv
  have HZE : Hid (ea = if 400 < T.size then 5 else 0) := by unfold Hid; rw [hze, hTz]
  have HZV : Hid (¬ 400 < T.size → va = a) := by intro h; rw [hTz] at h; exact hzv h
  have HVZ : Hid (400 < T.size → va = 0) := by
    intro h
    have h5 : ea = 5 := by have := HZE.out; rw [if_pos h] at this; exact this
    rw [hva]
    unfold zVal
    rw [← hea, h5]
    rfl
  have HOF : Hid (∀ V : World, Calls Tryd.prog 57 #[.int .i64 n] V (Ret V fun v w' => VZ w' V.heap.size v n 2)) := fun V => zof_c V n hn0 hn1
  have HI6 : Hid (∀ (V : World) (x : Value), AZ V x n 2 → Calls Tryd.prog 56 #[x] V (Is V (.tuple #[.int .i64 n, .bool true]))) := fun V x h1 => by
    have h := zint64_c V x n 2 h1 (by decide)
    rw [show i64N n = n from if_pos ⟨hn0, hn1⟩, show i64B n = true from decide_eq_true ⟨hn0, hn1⟩] at h
    exact h
  have hnn : (n != n) = false := by simp
  clear ht hs hn0 hn1 hz1 h1 hna hln hdl hze hzv hS hT hTz hSl hSz hea hva he2 hz2
  go_enter Tryd.func13, Tryd.ntmps13
  go_upto_region 1 with (fail)
  obtain ⟨W0, hW⟩ : ∃ V, V = W.alloc (.cells #[.bool s1, .slice A1 l1 c1] 51) := ⟨_, rfl⟩
  obtain ⟨hg, bb0⟩ := al1 W #[.bool s1, .slice A1 l1 c1] 51
  rw [← hW] at hg bb0 ⊢
  clear hW
  have c10 : W0.cell? ⟨W.heap.size, 0, none⟩ = some (.bool s1) := bb0.c 0 rfl
  have c11 : W0.cell? ⟨W.heap.size, 1, none⟩ = some (.slice A1 l1 c1) := bb0.c 1 rfl
  have KA := hid (KA.out.gr hg)
  have HG := hid hg
  clear hg bb0
  have HAN := hid (HAN.out.gr HG.out)
  go_wp2_with fail
  refine (HOF.out W0).mono ?_
  rintro e w1 ⟨v1, rfl, hv, hg⟩
  have k1_c10 := Gr.cell hg c10
  have k1_c11 := Gr.cell hg c11
  clear c10 c11
  replace KA := hid (KA.out.gr hg)
  replace HAN := hid (HAN.out.gr hg)
  replace HG := hid (HG.out.trans hg)
  have KN := hid hv
  clear hv
  clear hg
  go_wp2_with fail
  refine (HI6.out w1 _ KN.out.az).mono ?_
  rintro e w2 ⟨rfl, hg⟩
  have k2_c10 := Gr.cell hg k1_c10
  have k2_c11 := Gr.cell hg k1_c11
  clear k1_c10 k1_c11
  replace KA := hid (KA.out.gr hg)
  replace HAN := hid (HAN.out.gr hg)
  replace KN := hid (KN.out.gr hg)
  replace HG := hid (HG.out.trans hg)
  clear hg
  clear KN
  go_wp2_with fail
  refine (HP2.out w2).mono ?_
  rintro e w3 ⟨v2, rfl, hv, hg⟩
  have k3_c10 := Gr.cell hg k2_c10
  have k3_c11 := Gr.cell hg k2_c11
  clear k2_c10 k2_c11
  replace KA := hid (KA.out.gr hg)
  replace HAN := hid (HAN.out.gr hg)
  replace HG := hid (HG.out.trans hg)
  clear hg
  obtain ⟨Ax, lx, cx, rfl, hv⟩ := hv.form
  obtain ⟨bsx, hs⟩ : ∃ y0, y0 = decide ((z2 : Int) < 0) := ⟨_, rfl⟩
  rw [← hs] at hv ⊢
  clear hs
  have KX := hid hv
  clear hv
  obtain ⟨W3, hW⟩ : ∃ V, V = w3.alloc (.cells #[.bool bsx, .slice Ax lx cx] 51) := ⟨_, rfl⟩
  go_upto_region 5 with (fail)
  obtain ⟨hg, bb⟩ := al1 w3 #[.bool bsx, .slice Ax lx cx] 51
  rw [← hW] at hg bb ⊢
  clear hW
  have k4_c10 := Gr.cell hg k3_c10
  have k4_c11 := Gr.cell hg k3_c11
  clear k3_c10 k3_c11
  replace KA := hid (KA.out.gr hg)
  replace HAN := hid (HAN.out.gr hg)
  replace KX := hid (KX.out.gr hg)
  replace HG := hid (HG.out.trans hg)
  have cx0 : W3.cell? ⟨w3.heap.size, 0, none⟩ = some (.bool bsx) := bb.c 0 rfl
  have cx1 : W3.cell? ⟨w3.heap.size, 1, none⟩ = some (.slice Ax lx cx) := bb.c 1 rfl
  clear hg bb
  by_cases h2 : e2 = 0
  · have HE2 := hid h2
    have hb : (e2 == 0) = true := by rw [h2]; rfl
    clear h2
    go_wp2_with fail
    refine (HPS.out HE2.out W3 _ (HT.out.gr HG.out) KX.out.az).mono ?_
    rintro e w5 ⟨rfl, hg⟩
    have k5_c10 := Gr.cell hg k4_c10
    have k5_c11 := Gr.cell hg k4_c11
    have k5_cx0 := Gr.cell hg cx0
    have k5_cx1 := Gr.cell hg cx1
    clear k4_c10 k4_c11 cx0 cx1
    replace KA := hid (KA.out.gr hg)
    replace HAN := hid (HAN.out.gr hg)
    replace KX := hid (KX.out.gr hg)
    replace HG := hid (HG.out.trans hg)
    clear hg
    go_wp2_with fail
    refine (HPR.out w5 _ (HT.out.gr HG.out) KA.out).mono ?_
    rintro e w6 ⟨rfl, hg⟩
    have k6_c10 := Gr.cell hg k5_c10
    have k6_c11 := Gr.cell hg k5_c11
    have k6_cx0 := Gr.cell hg k5_cx0
    have k6_cx1 := Gr.cell hg k5_cx1
    clear k5_c10 k5_c11 k5_cx0 k5_cx1
    replace KA := hid (KA.out.gr hg)
    replace HAN := hid (HAN.out.gr hg)
    replace KX := hid (KX.out.gr hg)
    replace HG := hid (HG.out.trans hg)
    clear hg
    go_wp2_with fail
    refine (HPX.out w6 _ HAN.out).mono ?_
    rintro e w7 ⟨rfl, hg⟩
    have k7_c10 := Gr.cell hg k6_c10
    have k7_c11 := Gr.cell hg k6_c11
    have k7_cx0 := Gr.cell hg k6_cx0
    have k7_cx1 := Gr.cell hg k6_cx1
    clear k6_c10 k6_c11 k6_cx0 k6_cx1
    replace KA := hid (KA.out.gr hg)
    replace HAN := hid (HAN.out.gr hg)
    replace KX := hid (KX.out.gr hg)
    replace HG := hid (HG.out.trans hg)
    clear hg
    go_wp2_with fail
    refine (HPA.out w7).mono ?_
    rintro e w8 ⟨v5, rfl, hv, hg⟩
    have k8_c10 := Gr.cell hg k7_c10
    have k8_c11 := Gr.cell hg k7_c11
    have k8_cx0 := Gr.cell hg k7_cx0
    have k8_cx1 := Gr.cell hg k7_cx1
    clear k7_c10 k7_c11 k7_cx0 k7_cx1
    replace KA := hid (KA.out.gr hg)
    replace HAN := hid (HAN.out.gr hg)
    replace KX := hid (KX.out.gr hg)
    replace HG := hid (HG.out.trans hg)
    clear hg
    obtain ⟨Ay, ly, cy, rfl, hv⟩ := hv.form
    obtain ⟨bsy, hs⟩ : ∃ y0, y0 = decide ((va : Int) < 0) := ⟨_, rfl⟩
    rw [← hs] at hv ⊢
    clear hs
    have KY := hid hv
    clear hv
    obtain ⟨W8, hW⟩ : ∃ V, V = w8.alloc (.cells #[.bool bsy, .slice Ay ly cy] 51) := ⟨_, rfl⟩
    go_upto_region 10 with (fail)
    obtain ⟨hg, bb⟩ := al1 w8 #[.bool bsy, .slice Ay ly cy] 51
    rw [← hW] at hg bb ⊢
    clear hW
    have k9_c10 := Gr.cell hg k8_c10
    have k9_c11 := Gr.cell hg k8_c11
    have k9_cx0 := Gr.cell hg k8_cx0
    have k9_cx1 := Gr.cell hg k8_cx1
    clear k8_c10 k8_c11 k8_cx0 k8_cx1
    replace KA := hid (KA.out.gr hg)
    replace HAN := hid (HAN.out.gr hg)
    replace KX := hid (KX.out.gr hg)
    replace KY := hid (KY.out.gr hg)
    replace HG := hid (HG.out.trans hg)
    have cy0 : W8.cell? ⟨w8.heap.size, 0, none⟩ = some (.bool bsy) := bb.c 0 rfl
    have cy1 : W8.cell? ⟨w8.heap.size, 1, none⟩ = some (.slice Ay ly cy) := bb.c 1 rfl
    clear hg bb
    by_cases h400 : 400 < T.size
    · have hE : ea = 5 := by have h := HZE.out; rw [if_pos h400] at h; exact h
      have hV : va = 0 := HVZ.out h400
      have h401 : (400 : Int) < T.size := by omega
      have heb : (ea == 5) = true := by rw [hE]; rfl
      have HV := hid hV
      clear hE hV h400
      go_wp2_with fail
      refine (zsame_t W8 0 0 _ _ 0 400 (by have h := (KY.out.base (Nat.zero_le _)); rw [HV.out] at h; exact h) (VZ.zero' _ _ _) (by decide)).mono ?_
      rintro e w9 ⟨rfl, hg⟩
      have k10_c10 := Gr.cell hg k9_c10
      have k10_c11 := Gr.cell hg k9_c11
      have k10_cx0 := Gr.cell hg k9_cx0
      have k10_cx1 := Gr.cell hg k9_cx1
      have k10_cy0 := Gr.cell hg cy0
      have k10_cy1 := Gr.cell hg cy1
      clear k9_c10 k9_c11 k9_cx0 k9_cx1 cy0 cy1
      replace KA := hid (KA.out.gr hg)
      replace HAN := hid (HAN.out.gr hg)
      replace KX := hid (KX.out.gr hg)
      replace KY := hid (KY.out.gr hg)
      replace HG := hid (HG.out.trans hg)
      clear hg
      go_wp2_with fail
      refine (awake2_c w9 (HT.out.gr HG.out)).mono ?_
      rintro e w10 ⟨rfl, hg⟩
      have k11_c10 := Gr.cell hg k10_c10
      have k11_c11 := Gr.cell hg k10_c11
      have k11_cx0 := Gr.cell hg k10_cx0
      have k11_cx1 := Gr.cell hg k10_cx1
      have k11_cy0 := Gr.cell hg k10_cy0
      have k11_cy1 := Gr.cell hg k10_cy1
      clear k10_c10 k10_c11 k10_cx0 k10_cx1 k10_cy0 k10_cy1
      replace KA := hid (KA.out.gr hg)
      replace HAN := hid (HAN.out.gr hg)
      replace KX := hid (KX.out.gr hg)
      replace KY := hid (KY.out.gr hg)
      replace HG := hid (HG.out.trans hg)
      clear hg
      go_wp2
      go_ret
      exact ⟨rfl, HG.out⟩
    · have hE : ea = 0 := by have h := HZE.out; rw [if_neg h400] at h; exact h
      have hV : va = a := HZV.out h400
      have h401 : ¬ (400 : Int) < T.size := by omega
      have heb : (ea == 0) = true := by rw [hE]; rfl
      have HS1 : Hid (∀ (V : World) (b1 b2 : Nat) (u v : Value), VZ V b1 u (va) 400 → VZ V b2 v (a) 1048576 → Calls Tryd.prog 52 #[u, v] V (Is V (.bool true))) := fun V b1 b2 u v h1 h2 => by
        have h := zsame_c V b1 b2 u v _ _ 1048576 (h1.le (by decide)) (h2.le (by decide)) (by decide)
        rw [decide_eq_true hV] at h
        exact h
      clear hE hV h400
      go_wp2
      go_region_held3 (fun V => V.cell? ⟨W.heap.size, 0, none⟩ = some (.bool s1) ∧ V.cell? ⟨W.heap.size, 1, none⟩ = some (.slice A1 l1 c1) ∧ V.cell? ⟨w3.heap.size, 0, none⟩ = some (.bool bsx) ∧ V.cell? ⟨w3.heap.size, 1, none⟩ = some (.slice Ax lx cx) ∧ V.cell? ⟨w8.heap.size, 0, none⟩ = some (.bool bsy) ∧ V.cell? ⟨w8.heap.size, 1, none⟩ = some (.slice Ay ly cy))
        (first
          | exact ⟨k9_c10, k9_c11, k9_cx0, k9_cx1, cy0, cy1⟩
          | with_reducible exact ⟨Gr.cell HX1.out k9_c10, Gr.cell HX1.out k9_c11, Gr.cell HX1.out k9_cx0, Gr.cell HX1.out k9_cx1, Gr.cell HX1.out cy0, Gr.cell HX1.out cy1⟩
          | with_reducible exact ⟨Gr.cell HX2.out k9_c10, Gr.cell HX2.out k9_c11, Gr.cell HX2.out k9_cx0, Gr.cell HX2.out k9_cx1, Gr.cell HX2.out cy0, Gr.cell HX2.out cy1⟩
          | with_reducible exact ⟨Gr.cell HX3.out k9_c10, Gr.cell HX3.out k9_c11, Gr.cell HX3.out k9_cx0, Gr.cell HX3.out k9_cx1, Gr.cell HX3.out cy0, Gr.cell HX3.out cy1⟩)
        (first
          | (go_at_call 55; refine (awake2_c x2 (HT.out.gr (HG.out.trans HX2.out))).mono ?_; rintro e w9 ⟨rfl, hg⟩; have HX3 := hid (HX2.out.trans hg); clear hg)
          | (go_at_call 52; refine (HS1.out x1 _ _ _ _ (KY.out.gr HX1.out) HV1_1.out).mono ?_; rintro e x2 ⟨rfl, hg⟩; have HX2 := hid (HX1.out.trans hg); clear hg)
          | (go_at_call 58; refine (znorm_c _ _ a 1048576 (KA.out.gr ((Gr.refl W8).drew)) (by decide)).mono ?_; rintro e x1 ⟨g1, rfl, hv, hg⟩; have HX1 := hid (((Gr.refl W8).drew).trans hg); have HV1_1 := hid hv; clear hv hg))
      have k10_c10 := Gr.cell HX3.out k9_c10
      have k10_c11 := Gr.cell HX3.out k9_c11
      have k10_cx0 := Gr.cell HX3.out k9_cx0
      have k10_cx1 := Gr.cell HX3.out k9_cx1
      have k10_cy0 := Gr.cell HX3.out cy0
      have k10_cy1 := Gr.cell HX3.out cy1
      clear k9_c10 k9_c11 k9_cx0 k9_cx1 cy0 cy1
      replace KA := hid (KA.out.gr HX3.out)
      replace HAN := hid (HAN.out.gr HX3.out)
      replace KX := hid (KX.out.gr HX3.out)
      replace KY := hid (KY.out.gr HX3.out)
      replace HG := hid (HG.out.trans HX3.out)
      clear HX1 HX2 HX3
      go_wp2
      go_ret
      exact ⟨rfl, HG.out⟩
  · have hb : (e2 == 0) = false := by rw [beq_eq_false_iff_ne]; exact h2
    clear h2
    go_wp2_with fail
    refine (HPR.out W3 _ (HT.out.gr HG.out) KA.out).mono ?_
    rintro e w6 ⟨rfl, hg⟩
    have k5_c10 := Gr.cell hg k4_c10
    have k5_c11 := Gr.cell hg k4_c11
    have k5_cx0 := Gr.cell hg cx0
    have k5_cx1 := Gr.cell hg cx1
    clear k4_c10 k4_c11 cx0 cx1
    replace KA := hid (KA.out.gr hg)
    replace HAN := hid (HAN.out.gr hg)
    replace KX := hid (KX.out.gr hg)
    replace HG := hid (HG.out.trans hg)
    clear hg
    go_wp2_with fail
    refine (HPX.out w6 _ HAN.out).mono ?_
    rintro e w7 ⟨rfl, hg⟩
    have k6_c10 := Gr.cell hg k5_c10
    have k6_c11 := Gr.cell hg k5_c11
    have k6_cx0 := Gr.cell hg k5_cx0
    have k6_cx1 := Gr.cell hg k5_cx1
    clear k5_c10 k5_c11 k5_cx0 k5_cx1
    replace KA := hid (KA.out.gr hg)
    replace HAN := hid (HAN.out.gr hg)
    replace KX := hid (KX.out.gr hg)
    replace HG := hid (HG.out.trans hg)
    clear hg
    go_wp2_with fail
    refine (HPA.out w7).mono ?_
    rintro e w8 ⟨v5, rfl, hv, hg⟩
    have k7_c10 := Gr.cell hg k6_c10
    have k7_c11 := Gr.cell hg k6_c11
    have k7_cx0 := Gr.cell hg k6_cx0
    have k7_cx1 := Gr.cell hg k6_cx1
    clear k6_c10 k6_c11 k6_cx0 k6_cx1
    replace KA := hid (KA.out.gr hg)
    replace HAN := hid (HAN.out.gr hg)
    replace KX := hid (KX.out.gr hg)
    replace HG := hid (HG.out.trans hg)
    clear hg
    obtain ⟨Ay, ly, cy, rfl, hv⟩ := hv.form
    obtain ⟨bsy, hs⟩ : ∃ y0, y0 = decide ((va : Int) < 0) := ⟨_, rfl⟩
    rw [← hs] at hv ⊢
    clear hs
    have KY := hid hv
    clear hv
    obtain ⟨W8, hW⟩ : ∃ V, V = w8.alloc (.cells #[.bool bsy, .slice Ay ly cy] 51) := ⟨_, rfl⟩
    go_upto_region 10 with (fail)
    obtain ⟨hg, bb⟩ := al1 w8 #[.bool bsy, .slice Ay ly cy] 51
    rw [← hW] at hg bb ⊢
    clear hW
    have k8_c10 := Gr.cell hg k7_c10
    have k8_c11 := Gr.cell hg k7_c11
    have k8_cx0 := Gr.cell hg k7_cx0
    have k8_cx1 := Gr.cell hg k7_cx1
    clear k7_c10 k7_c11 k7_cx0 k7_cx1
    replace KA := hid (KA.out.gr hg)
    replace HAN := hid (HAN.out.gr hg)
    replace KX := hid (KX.out.gr hg)
    replace KY := hid (KY.out.gr hg)
    replace HG := hid (HG.out.trans hg)
    have cy0 : W8.cell? ⟨w8.heap.size, 0, none⟩ = some (.bool bsy) := bb.c 0 rfl
    have cy1 : W8.cell? ⟨w8.heap.size, 1, none⟩ = some (.slice Ay ly cy) := bb.c 1 rfl
    clear hg bb
    by_cases h400 : 400 < T.size
    · have hE : ea = 5 := by have h := HZE.out; rw [if_pos h400] at h; exact h
      have hV : va = 0 := HVZ.out h400
      have h401 : (400 : Int) < T.size := by omega
      have heb : (ea == 5) = true := by rw [hE]; rfl
      have HV := hid hV
      clear hE hV h400
      go_wp2_with fail
      refine (zsame_t W8 0 0 _ _ 0 400 (by have h := (KY.out.base (Nat.zero_le _)); rw [HV.out] at h; exact h) (VZ.zero' _ _ _) (by decide)).mono ?_
      rintro e w9 ⟨rfl, hg⟩
      have k9_c10 := Gr.cell hg k8_c10
      have k9_c11 := Gr.cell hg k8_c11
      have k9_cx0 := Gr.cell hg k8_cx0
      have k9_cx1 := Gr.cell hg k8_cx1
      have k9_cy0 := Gr.cell hg cy0
      have k9_cy1 := Gr.cell hg cy1
      clear k8_c10 k8_c11 k8_cx0 k8_cx1 cy0 cy1
      replace KA := hid (KA.out.gr hg)
      replace HAN := hid (HAN.out.gr hg)
      replace KX := hid (KX.out.gr hg)
      replace KY := hid (KY.out.gr hg)
      replace HG := hid (HG.out.trans hg)
      clear hg
      go_wp2_with fail
      refine (awake2_c w9 (HT.out.gr HG.out)).mono ?_
      rintro e w10 ⟨rfl, hg⟩
      have k10_c10 := Gr.cell hg k9_c10
      have k10_c11 := Gr.cell hg k9_c11
      have k10_cx0 := Gr.cell hg k9_cx0
      have k10_cx1 := Gr.cell hg k9_cx1
      have k10_cy0 := Gr.cell hg k9_cy0
      have k10_cy1 := Gr.cell hg k9_cy1
      clear k9_c10 k9_c11 k9_cx0 k9_cx1 k9_cy0 k9_cy1
      replace KA := hid (KA.out.gr hg)
      replace HAN := hid (HAN.out.gr hg)
      replace KX := hid (KX.out.gr hg)
      replace KY := hid (KY.out.gr hg)
      replace HG := hid (HG.out.trans hg)
      clear hg
      go_wp2
      go_ret
      exact ⟨rfl, HG.out⟩
    · have hE : ea = 0 := by have h := HZE.out; rw [if_neg h400] at h; exact h
      have hV : va = a := HZV.out h400
      have h401 : ¬ (400 : Int) < T.size := by omega
      have heb : (ea == 0) = true := by rw [hE]; rfl
      have HS1 : Hid (∀ (V : World) (b1 b2 : Nat) (u v : Value), VZ V b1 u (va) 400 → VZ V b2 v (a) 1048576 → Calls Tryd.prog 52 #[u, v] V (Is V (.bool true))) := fun V b1 b2 u v h1 h2 => by
        have h := zsame_c V b1 b2 u v _ _ 1048576 (h1.le (by decide)) (h2.le (by decide)) (by decide)
        rw [decide_eq_true hV] at h
        exact h
      clear hE hV h400
      go_wp2
      go_region_held3 (fun V => V.cell? ⟨W.heap.size, 0, none⟩ = some (.bool s1) ∧ V.cell? ⟨W.heap.size, 1, none⟩ = some (.slice A1 l1 c1) ∧ V.cell? ⟨w3.heap.size, 0, none⟩ = some (.bool bsx) ∧ V.cell? ⟨w3.heap.size, 1, none⟩ = some (.slice Ax lx cx) ∧ V.cell? ⟨w8.heap.size, 0, none⟩ = some (.bool bsy) ∧ V.cell? ⟨w8.heap.size, 1, none⟩ = some (.slice Ay ly cy))
        (first
          | exact ⟨k8_c10, k8_c11, k8_cx0, k8_cx1, cy0, cy1⟩
          | with_reducible exact ⟨Gr.cell HX1.out k8_c10, Gr.cell HX1.out k8_c11, Gr.cell HX1.out k8_cx0, Gr.cell HX1.out k8_cx1, Gr.cell HX1.out cy0, Gr.cell HX1.out cy1⟩
          | with_reducible exact ⟨Gr.cell HX2.out k8_c10, Gr.cell HX2.out k8_c11, Gr.cell HX2.out k8_cx0, Gr.cell HX2.out k8_cx1, Gr.cell HX2.out cy0, Gr.cell HX2.out cy1⟩
          | with_reducible exact ⟨Gr.cell HX3.out k8_c10, Gr.cell HX3.out k8_c11, Gr.cell HX3.out k8_cx0, Gr.cell HX3.out k8_cx1, Gr.cell HX3.out cy0, Gr.cell HX3.out cy1⟩)
        (first
          | (go_at_call 55; refine (awake2_c x2 (HT.out.gr (HG.out.trans HX2.out))).mono ?_; rintro e w9 ⟨rfl, hg⟩; have HX3 := hid (HX2.out.trans hg); clear hg)
          | (go_at_call 52; refine (HS1.out x1 _ _ _ _ (KY.out.gr HX1.out) HV1_1.out).mono ?_; rintro e x2 ⟨rfl, hg⟩; have HX2 := hid (HX1.out.trans hg); clear hg)
          | (go_at_call 58; refine (znorm_c _ _ a 1048576 (KA.out.gr ((Gr.refl W8).drew)) (by decide)).mono ?_; rintro e x1 ⟨g1, rfl, hv, hg⟩; have HX1 := hid (((Gr.refl W8).drew).trans hg); have HV1_1 := hid hv; clear hv hg))
      have k9_c10 := Gr.cell HX3.out k8_c10
      have k9_c11 := Gr.cell HX3.out k8_c11
      have k9_cx0 := Gr.cell HX3.out k8_cx0
      have k9_cx1 := Gr.cell HX3.out k8_cx1
      have k9_cy0 := Gr.cell HX3.out cy0
      have k9_cy1 := Gr.cell HX3.out cy1
      clear k8_c10 k8_c11 k8_cx0 k8_cx1 cy0 cy1
      replace KA := hid (KA.out.gr HX3.out)
      replace HAN := hid (HAN.out.gr HX3.out)
      replace KX := hid (KX.out.gr HX3.out)
      replace KY := hid (KY.out.gr HX3.out)
      replace HG := hid (HG.out.trans HX3.out)
      clear HX1 HX2 HX3
      go_wp2
      go_ret
      exact ⟨rfl, HG.out⟩
end Go.Proofs.YtkbgdiejjabdmaaDoor
