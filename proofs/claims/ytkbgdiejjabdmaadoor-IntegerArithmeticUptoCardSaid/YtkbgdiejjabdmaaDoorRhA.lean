/- The walks of Parse of the integers. -/
import Derived.Test.YtkbgdiejjabdmaaDoorRgB
import Derived.Test.YtkbgdiejjabdmaaDoorRatP
namespace Go.Proofs.YtkbgdiejjabdmaaDoor
open Go.RowKit

/-- The error of an integer's Parse. -/
def zErr (l : List UInt8) : Int := if l.head? = some 45 then (if pErr l.tail = 0 then (if pVal l.tail = 0 then 2 else 0) else pErr l.tail) else pErr l
/-- The integer that Parse returns. -/
def zVal (l : List UInt8) : Int := if zErr l = 0 then (if l.head? = some 45 then -(pVal l.tail : Int) else (pVal l : Int)) else 0

set_option maxHeartbeats 4000000 in
theorem zparse_c (w : World) (s : ByteArray) (hs : s.size ≤ 1099511627776) :
    Calls Tryd.prog 50 #[.string s] w (RetE w (zErr s.data.toList) fun v w' => VZ w' w.heap.size v (zVal s.data.toList) 400) := by
  obtain ⟨l, hl⟩ : ∃ l, l = s.data.toList := ⟨_, rfl⟩
  rw [← hl]
  have HL := hid hl
  by_cases hneg : l.head? = some 45
  · have hsz : 0 < s.size := by
      rcases Nat.eq_zero_or_pos s.size with h | h
      · rw [hl] at hneg
        have : s.data.toList = [] := List.eq_nil_of_length_eq_zero (by rw [size_len]; exact h)
        rw [this] at hneg; simp at hneg
      · exact h
    have h45 : ((s[0].toNat : Int) == 45) = true := by
      rw [hl, List.head?_eq_getElem?, List.getElem?_eq_getElem (by rw [size_len]; exact hsz)] at hneg
      have h3 : s.data.toList[0]'(by rw [size_len]; exact hsz) = s[0] := rfl
      rw [h3] at hneg
      rw [Option.some.inj hneg]; rfl
    have hsi : 0 < (s.size : Int) := by omega
    have hext : (s.extract 1 s.size).data.toList = l.tail := by
      rw [hl, ByteArray.data_extract, Array.toList_extract, List.extract_eq_take_drop]
      have h4 : s.size = s.data.toList.length := (size_len s).symm
      rw [h4, List.take_of_length_le (by simp), List.drop_one]
    have hexs : (s.extract 1 s.size).size ≤ 1099511627776 := by rw [ByteArray.size_extract]; omega
    obtain ⟨er, her⟩ : ∃ e, e = pErr l.tail := ⟨_, rfl⟩
    obtain ⟨n, hn⟩ : ∃ n, n = pVal l.tail := ⟨_, rfl⟩
    have HPR : Hid (∀ V : World, Calls Tryd.prog 45 #[.string (s.extract 1 s.size)] V (RetE V er fun v w' => VN w' V.heap.size v n 400)) := fun V => by rw [her, hn, ← hext]; exact parse_c V _ hexs
    have hze : zErr l = if er = 0 then (if n = 0 then 2 else 0) else er := by unfold zErr; rw [if_pos hneg, ← her, ← hn]
    have hzv : zVal l = if zErr l = 0 then -(n : Int) else 0 := by unfold zVal; rw [if_pos hneg, ← hn]
    obtain ⟨zz, hzz⟩ : ∃ z, z = zVal l := ⟨_, rfl⟩
    rw [← hzz] at hzv ⊢
    have HZE := hid hze
    have HZV := hid hzv
    clear hl her hn hneg hext hexs hze hzv hzz
    go_enter Tryd.func50, Tryd.ntmps50
    go_wp2_with fail
    refine (HPR.out _).mono ?_
    rintro e w1 ⟨v, rfl, ⟨Av, cv, rfl, hr, hln, hown⟩, hg⟩
    obtain ⟨ln, hlen⟩ : ∃ ln, ln = (limbs n).length := ⟨_, rfl⟩
    have hl0 : ln = 0 ↔ n = 0 := by
      have h := limbs_lt (n := n)
      rw [eq_iff_iff] at h
      rw [hlen]; omega
    have HVN : Hid (VN w1 (w.alloc (.cells #[.bool false, .slice none 0 0] 51)).heap.size (.slice Av ln cv) n 400) := ⟨Av, cv, by rw [hlen], hr, hln, hown⟩
    rw [← hlen]
    have HB := hid ((Blk.new w #[.bool false, .slice none 0 0] 51).gr hg)
    have HG := hid ((Gr.alloc w _).trans hg)
    have HL0 := hid hl0
    clear hr hln hown hg hlen hl0
    have r0 : w1.cell? ⟨w.heap.size, 0, none⟩ = some (.bool false) := HB.out.c 0 rfl
    have r1 : w1.cell? ⟨w.heap.size, 1, none⟩ = some (.slice none 0 0) := HB.out.c 1 rfl
    have t0 : w1.frozen? ⟨w.heap.size, 0, none⟩ = false := HB.out.free 0
    have t1 : w1.frozen? ⟨w.heap.size, 1, none⟩ = false := HB.out.free 1
    have t2 : w.heap.size < w1.heap.size := HB.out.lt
    by_cases he : er = 0
    · subst he
      by_cases hn0 : ln = 0
      · subst hn0
        have hnz : n = 0 := HL0.out.1 rfl
        have hE : zErr l = 2 := by rw [HZE.out, if_pos rfl, if_pos hnz]
        have hV : zz = 0 := by rw [HZV.out, hE]; rfl
        have HE := hid hE
        have HV := hid hV
        clear hnz hE hV
        go_wp2
        refine int_end_b rfl rfl rfl HB.out ?_
        intro V hV
        exact ⟨_, by rw [HE.out]; rfl, by rw [HV.out]; exact VZ.zero' _ _ _, HG.out.ex hV (Nat.le_refl _)⟩
      · have hlb : ((ln : Int) == 0) = false := by rw [beq_eq_false_iff_ne]; omega
        have hnz : n ≠ 0 := fun h => hn0 (HL0.out.2 h)
        have hE : zErr l = 0 := by rw [HZE.out, if_pos rfl, if_neg hnz]
        have hV : zz = sgnd true n := by rw [HZV.out, hE, if_pos rfl]; rfl
        have HE := hid hE
        have HMK : Hid (Calls Tryd.prog 63 #[.bool true, .slice Av ln cv] w1 (Ret w1 fun v w' => VZ w' w1.heap.size v zz 400)) := by rw [hV]; exact make_c w1 true _ n 400 HVN.out.an (by decide)
        clear hnz hE hV r0 r1 t0 t1 t2
        go_wp2_with fail
        refine HMK.out.mono ?_
        rintro e w2 ⟨v2, rfl, hv2, hg2⟩
        obtain ⟨A2, n2, c2, rfl, hv2⟩ := hv2.form
        obtain ⟨bb, hbb⟩ : ∃ b, b = decide (zz < 0) := ⟨_, rfl⟩
        rw [← hbb] at hv2 ⊢
        have HV2 := hid hv2
        have HB2 := hid (HB.out.gr hg2)
        have HG2 := hid (HG.out.trans hg2)
        have HLT := hid HB.out.lt
        clear hv2 hg2 hbb
        have r0 : w2.cell? ⟨w.heap.size, 0, none⟩ = some (.bool false) := HB2.out.c 0 rfl
        have r1 : w2.cell? ⟨w.heap.size, 1, none⟩ = some (.slice none 0 0) := HB2.out.c 1 rfl
        have t0 : w2.frozen? ⟨w.heap.size, 0, none⟩ = false := HB2.out.free 0
        have t1 : w2.frozen? ⟨w.heap.size, 1, none⟩ = false := HB2.out.free 1
        have t2 : w.heap.size < w2.heap.size := HB2.out.lt
        go_wp2
        refine int_end_b rfl rfl rfl HB2.out ?_
        intro V hV
        exact ⟨_, by rw [HE.out]; rfl, (HV2.out.exb hV HLT.out).base (Nat.le_of_lt HLT.out), HG2.out.ex hV (Nat.le_refl _)⟩
    · have heb : (er != 0) = true := by rw [bne_iff_ne]; exact he
      have hE : zErr l = er := by rw [HZE.out, if_neg he]
      have hV : zz = 0 := by rw [HZV.out, hE, if_neg he]
      have HE := hid hE
      have HV := hid hV
      clear hE hV
      go_wp2
      refine int_end_b rfl rfl rfl HB.out ?_
      intro V hV
      exact ⟨_, by rw [HE.out]; rfl, by rw [HV.out]; exact VZ.zero' _ _ _, HG.out.ex hV (Nat.le_refl _)⟩
  · have hz1 : zErr l = pErr l := by unfold zErr; rw [if_neg hneg]
    have hz2 : zVal l = (pVal l : Int) := by
      unfold zVal
      rw [if_neg hneg, hz1]
      by_cases h : pErr l = 0
      · rw [if_pos h]
      · rw [if_neg h]; unfold pVal; rw [if_neg h]; rfl
    rw [hz1, hz2]
    have HPR : Hid (∀ V : World, Calls Tryd.prog 45 #[.string s] V (RetE V (pErr l) fun v w' => VN w' V.heap.size v (pVal l) 400)) := fun V => by rw [hl]; exact parse_c V s hs
    obtain ⟨er, her⟩ : ∃ e, e = pErr l := ⟨_, rfl⟩
    rw [← her] at HPR ⊢
    have hor : (¬ 0 < (s.size : Int)) ∨ (0 < (s.size : Int) ∧ ∃ h : 0 < s.size, ((s[0].toNat : Int) == 45) = false) := by
      by_cases h : 0 < s.size
      · refine .inr ⟨by omega, h, ?_⟩
        rw [beq_eq_false_iff_ne]
        intro h2
        apply hneg
        rw [hl, List.head?_eq_getElem?, List.getElem?_eq_getElem (by rw [size_len]; exact h)]
        congr 1
        apply UInt8.toNat_inj.1
        have h3 : s.data.toList[0]'(by rw [size_len]; exact h) = s[0] := rfl
        rw [h3]
        simp only [UInt8.reduceToNat]
        omega
      · exact .inl (by omega)
    have HER := hid her
    clear hneg hz1 hz2 hl her
    rcases hor with ho | ⟨ho1, hp, ho2⟩
    all_goals
      go_enter Tryd.func50, Tryd.ntmps50
      go_wp2_with fail
      refine (HPR.out _).mono ?_
      rintro e w1 ⟨v, rfl, hv, hg⟩
      have HB := hid ((Blk.new w #[.bool false, .slice none 0 0] 51).gr hg)
      have HG := hid ((Gr.alloc w _).trans hg)
      have HV := hid hv
      clear hv hg
      by_cases he : er = 0
      · subst he
        go_wp2_with fail
        refine (make_c w1 false v (pVal l) 400 HV.out.an (by decide)).mono ?_
        rintro e w2 ⟨v2, rfl, hv2, hg2⟩
        have hv2 : VZ w2 w1.heap.size v2 (pVal l : Int) 400 := hv2
        obtain ⟨A2, n2, c2, rfl, hv2⟩ := hv2.form
        obtain ⟨bb, hbb⟩ : ∃ b, b = decide ((pVal l : Int) < 0) := ⟨_, rfl⟩
        rw [← hbb] at hv2 ⊢
        have HV2 := hid hv2
        have HB2 := hid (HB.out.gr hg2)
        have HG2 := hid (HG.out.trans hg2)
        have HLT := hid HB.out.lt
        clear hv2 hg2 hbb
        have r0 : w2.cell? ⟨w.heap.size, 0, none⟩ = some (.bool false) := HB2.out.c 0 rfl
        have r1 : w2.cell? ⟨w.heap.size, 1, none⟩ = some (.slice none 0 0) := HB2.out.c 1 rfl
        have t0 : w2.frozen? ⟨w.heap.size, 0, none⟩ = false := HB2.out.free 0
        have t1 : w2.frozen? ⟨w.heap.size, 1, none⟩ = false := HB2.out.free 1
        have t2 : w.heap.size < w2.heap.size := HB2.out.lt
        go_wp2
        refine int_end_b rfl rfl rfl HB2.out ?_
        intro V hV
        exact ⟨_, rfl, (HV2.out.exb hV HLT.out).base (Nat.le_of_lt HLT.out), HG2.out.ex hV (Nat.le_refl _)⟩
      · have heb : (er != 0) = true := by rw [bne_iff_ne]; exact he
        have hp0 : (pVal l : Int) = 0 := by unfold pVal; rw [← HER.out, if_neg he]; rfl
        have HP0 := hid hp0
        have r0 : w1.cell? ⟨w.heap.size, 0, none⟩ = some (.bool false) := HB.out.c 0 rfl
        have r1 : w1.cell? ⟨w.heap.size, 1, none⟩ = some (.slice none 0 0) := HB.out.c 1 rfl
        have t0 : w1.frozen? ⟨w.heap.size, 0, none⟩ = false := HB.out.free 0
        have t1 : w1.frozen? ⟨w.heap.size, 1, none⟩ = false := HB.out.free 1
        have t2 : w.heap.size < w1.heap.size := HB.out.lt
        clear hp0
        go_wp2
        refine int_end_b rfl rfl rfl HB.out ?_
        intro V hV
        exact ⟨_, rfl, by rw [HP0.out]; exact VZ.zero' _ _ _, HG.out.ex hV (Nat.le_refl _)⟩

set_option maxHeartbeats 4000000 in
theorem xzparse_c (w : World) (s : ByteArray) (hs : s.size ≤ 1099511627776) :
    Calls Tryd.prog 51 #[.string s] w (RetE w (zErr s.data.toList) fun v w' => VZ w' w.heap.size v (zVal s.data.toList) 400) := by
  obtain ⟨l, hl⟩ : ∃ l, l = s.data.toList := ⟨_, rfl⟩
  rw [← hl]
  have HL := hid hl
  by_cases hneg : l.head? = some 45
  · have hsz : 0 < s.size := by
      rcases Nat.eq_zero_or_pos s.size with h | h
      · rw [hl] at hneg
        have : s.data.toList = [] := List.eq_nil_of_length_eq_zero (by rw [size_len]; exact h)
        rw [this] at hneg; simp at hneg
      · exact h
    have h45 : ((s[0].toNat : Int) == 45) = true := by
      rw [hl, List.head?_eq_getElem?, List.getElem?_eq_getElem (by rw [size_len]; exact hsz)] at hneg
      have h3 : s.data.toList[0]'(by rw [size_len]; exact hsz) = s[0] := rfl
      rw [h3] at hneg
      rw [Option.some.inj hneg]; rfl
    have hsi : 0 < (s.size : Int) := by omega
    have hext : (s.extract 1 s.size).data.toList = l.tail := by
      rw [hl, ByteArray.data_extract, Array.toList_extract, List.extract_eq_take_drop]
      have h4 : s.size = s.data.toList.length := (size_len s).symm
      rw [h4, List.take_of_length_le (by simp), List.drop_one]
    have hexs : (s.extract 1 s.size).size ≤ 1099511627776 := by rw [ByteArray.size_extract]; omega
    obtain ⟨er, her⟩ : ∃ e, e = pErr l.tail := ⟨_, rfl⟩
    obtain ⟨n, hn⟩ : ∃ n, n = pVal l.tail := ⟨_, rfl⟩
    have HPR : Hid (∀ V : World, Calls Tryd.prog 46 #[.string (s.extract 1 s.size)] V (RetE V er fun v w' => VN w' V.heap.size v n 400)) := fun V => by rw [her, hn, ← hext]; exact xparse_c V _ hexs
    have hze : zErr l = if er = 0 then (if n = 0 then 2 else 0) else er := by unfold zErr; rw [if_pos hneg, ← her, ← hn]
    have hzv : zVal l = if zErr l = 0 then -(n : Int) else 0 := by unfold zVal; rw [if_pos hneg, ← hn]
    obtain ⟨zz, hzz⟩ : ∃ z, z = zVal l := ⟨_, rfl⟩
    rw [← hzz] at hzv ⊢
    have HZE := hid hze
    have HZV := hid hzv
    clear hl her hn hneg hext hexs hze hzv hzz
    go_enter Tryd.func51, Tryd.ntmps51
    go_wp2_with fail
    refine (HPR.out _).mono ?_
    rintro e w1 ⟨v, rfl, ⟨Av, cv, rfl, hr, hln, hown⟩, hg⟩
    obtain ⟨ln, hlen⟩ : ∃ ln, ln = (limbs n).length := ⟨_, rfl⟩
    have hl0 : ln = 0 ↔ n = 0 := by
      have h := limbs_lt (n := n)
      rw [eq_iff_iff] at h
      rw [hlen]; omega
    have HVN : Hid (VN w1 (w.alloc (.cells #[.bool false, .slice none 0 0] 51)).heap.size (.slice Av ln cv) n 400) := ⟨Av, cv, by rw [hlen], hr, hln, hown⟩
    rw [← hlen]
    have HB := hid ((Blk.new w #[.bool false, .slice none 0 0] 51).gr hg)
    have HG := hid ((Gr.alloc w _).trans hg)
    have HL0 := hid hl0
    clear hr hln hown hg hlen hl0
    have r0 : w1.cell? ⟨w.heap.size, 0, none⟩ = some (.bool false) := HB.out.c 0 rfl
    have r1 : w1.cell? ⟨w.heap.size, 1, none⟩ = some (.slice none 0 0) := HB.out.c 1 rfl
    have t0 : w1.frozen? ⟨w.heap.size, 0, none⟩ = false := HB.out.free 0
    have t1 : w1.frozen? ⟨w.heap.size, 1, none⟩ = false := HB.out.free 1
    have t2 : w.heap.size < w1.heap.size := HB.out.lt
    by_cases he : er = 0
    · subst he
      by_cases hn0 : ln = 0
      · subst hn0
        have hnz : n = 0 := HL0.out.1 rfl
        have hE : zErr l = 2 := by rw [HZE.out, if_pos rfl, if_pos hnz]
        have hV : zz = 0 := by rw [HZV.out, hE]; rfl
        have HE := hid hE
        have HV := hid hV
        clear hnz hE hV
        go_wp2
        refine int_end_b rfl rfl rfl HB.out ?_
        intro V hV
        exact ⟨_, by rw [HE.out]; rfl, by rw [HV.out]; exact VZ.zero' _ _ _, HG.out.ex hV (Nat.le_refl _)⟩
      · have hlb : ((ln : Int) == 0) = false := by rw [beq_eq_false_iff_ne]; omega
        have hnz : n ≠ 0 := fun h => hn0 (HL0.out.2 h)
        have hE : zErr l = 0 := by rw [HZE.out, if_pos rfl, if_neg hnz]
        have hV : zz = sgnd true n := by rw [HZV.out, hE, if_pos rfl]; rfl
        have HE := hid hE
        have HMK : Hid (Calls Tryd.prog 64 #[.bool true, .slice Av ln cv] w1 (Ret w1 fun v w' => VZ w' w1.heap.size v zz 400)) := by rw [hV]; exact xzmake_c w1 true _ n 400 HVN.out.an (by decide)
        clear hnz hE hV r0 r1 t0 t1 t2
        go_wp2_with fail
        refine HMK.out.mono ?_
        rintro e w2 ⟨v2, rfl, hv2, hg2⟩
        obtain ⟨A2, n2, c2, rfl, hv2⟩ := hv2.form
        obtain ⟨bb, hbb⟩ : ∃ b, b = decide (zz < 0) := ⟨_, rfl⟩
        rw [← hbb] at hv2 ⊢
        have HV2 := hid hv2
        have HB2 := hid (HB.out.gr hg2)
        have HG2 := hid (HG.out.trans hg2)
        have HLT := hid HB.out.lt
        clear hv2 hg2 hbb
        have r0 : w2.cell? ⟨w.heap.size, 0, none⟩ = some (.bool false) := HB2.out.c 0 rfl
        have r1 : w2.cell? ⟨w.heap.size, 1, none⟩ = some (.slice none 0 0) := HB2.out.c 1 rfl
        have t0 : w2.frozen? ⟨w.heap.size, 0, none⟩ = false := HB2.out.free 0
        have t1 : w2.frozen? ⟨w.heap.size, 1, none⟩ = false := HB2.out.free 1
        have t2 : w.heap.size < w2.heap.size := HB2.out.lt
        go_wp2
        refine int_end_b rfl rfl rfl HB2.out ?_
        intro V hV
        exact ⟨_, by rw [HE.out]; rfl, (HV2.out.exb hV HLT.out).base (Nat.le_of_lt HLT.out), HG2.out.ex hV (Nat.le_refl _)⟩
    · have heb : (er != 0) = true := by rw [bne_iff_ne]; exact he
      have hE : zErr l = er := by rw [HZE.out, if_neg he]
      have hV : zz = 0 := by rw [HZV.out, hE, if_neg he]
      have HE := hid hE
      have HV := hid hV
      clear hE hV
      go_wp2
      refine int_end_b rfl rfl rfl HB.out ?_
      intro V hV
      exact ⟨_, by rw [HE.out]; rfl, by rw [HV.out]; exact VZ.zero' _ _ _, HG.out.ex hV (Nat.le_refl _)⟩
  · have hz1 : zErr l = pErr l := by unfold zErr; rw [if_neg hneg]
    have hz2 : zVal l = (pVal l : Int) := by
      unfold zVal
      rw [if_neg hneg, hz1]
      by_cases h : pErr l = 0
      · rw [if_pos h]
      · rw [if_neg h]; unfold pVal; rw [if_neg h]; rfl
    rw [hz1, hz2]
    have HPR : Hid (∀ V : World, Calls Tryd.prog 46 #[.string s] V (RetE V (pErr l) fun v w' => VN w' V.heap.size v (pVal l) 400)) := fun V => by rw [hl]; exact xparse_c V s hs
    obtain ⟨er, her⟩ : ∃ e, e = pErr l := ⟨_, rfl⟩
    rw [← her] at HPR ⊢
    have hor : (¬ 0 < (s.size : Int)) ∨ (0 < (s.size : Int) ∧ ∃ h : 0 < s.size, ((s[0].toNat : Int) == 45) = false) := by
      by_cases h : 0 < s.size
      · refine .inr ⟨by omega, h, ?_⟩
        rw [beq_eq_false_iff_ne]
        intro h2
        apply hneg
        rw [hl, List.head?_eq_getElem?, List.getElem?_eq_getElem (by rw [size_len]; exact h)]
        congr 1
        apply UInt8.toNat_inj.1
        have h3 : s.data.toList[0]'(by rw [size_len]; exact h) = s[0] := rfl
        rw [h3]
        simp only [UInt8.reduceToNat]
        omega
      · exact .inl (by omega)
    have HER := hid her
    clear hneg hz1 hz2 hl her
    rcases hor with ho | ⟨ho1, hp, ho2⟩
    all_goals
      go_enter Tryd.func51, Tryd.ntmps51
      go_wp2_with fail
      refine (HPR.out _).mono ?_
      rintro e w1 ⟨v, rfl, hv, hg⟩
      have HB := hid ((Blk.new w #[.bool false, .slice none 0 0] 51).gr hg)
      have HG := hid ((Gr.alloc w _).trans hg)
      have HV := hid hv
      clear hv hg
      by_cases he : er = 0
      · subst he
        go_wp2_with fail
        refine (xzmake_c w1 false v (pVal l) 400 HV.out.an (by decide)).mono ?_
        rintro e w2 ⟨v2, rfl, hv2, hg2⟩
        have hv2 : VZ w2 w1.heap.size v2 (pVal l : Int) 400 := hv2
        obtain ⟨A2, n2, c2, rfl, hv2⟩ := hv2.form
        obtain ⟨bb, hbb⟩ : ∃ b, b = decide ((pVal l : Int) < 0) := ⟨_, rfl⟩
        rw [← hbb] at hv2 ⊢
        have HV2 := hid hv2
        have HB2 := hid (HB.out.gr hg2)
        have HG2 := hid (HG.out.trans hg2)
        have HLT := hid HB.out.lt
        clear hv2 hg2 hbb
        have r0 : w2.cell? ⟨w.heap.size, 0, none⟩ = some (.bool false) := HB2.out.c 0 rfl
        have r1 : w2.cell? ⟨w.heap.size, 1, none⟩ = some (.slice none 0 0) := HB2.out.c 1 rfl
        have t0 : w2.frozen? ⟨w.heap.size, 0, none⟩ = false := HB2.out.free 0
        have t1 : w2.frozen? ⟨w.heap.size, 1, none⟩ = false := HB2.out.free 1
        have t2 : w.heap.size < w2.heap.size := HB2.out.lt
        go_wp2
        refine int_end_b rfl rfl rfl HB2.out ?_
        intro V hV
        exact ⟨_, rfl, (HV2.out.exb hV HLT.out).base (Nat.le_of_lt HLT.out), HG2.out.ex hV (Nat.le_refl _)⟩
      · have heb : (er != 0) = true := by rw [bne_iff_ne]; exact he
        have hp0 : (pVal l : Int) = 0 := by unfold pVal; rw [← HER.out, if_neg he]; rfl
        have HP0 := hid hp0
        have r0 : w1.cell? ⟨w.heap.size, 0, none⟩ = some (.bool false) := HB.out.c 0 rfl
        have r1 : w1.cell? ⟨w.heap.size, 1, none⟩ = some (.slice none 0 0) := HB.out.c 1 rfl
        have t0 : w1.frozen? ⟨w.heap.size, 0, none⟩ = false := HB.out.free 0
        have t1 : w1.frozen? ⟨w.heap.size, 1, none⟩ = false := HB.out.free 1
        have t2 : w.heap.size < w1.heap.size := HB.out.lt
        clear hp0
        go_wp2
        refine int_end_b rfl rfl rfl HB.out ?_
        intro V hV
        exact ⟨_, rfl, by rw [HP0.out]; exact VZ.zero' _ _ _, HG.out.ex hV (Nat.le_refl _)⟩
end Go.Proofs.YtkbgdiejjabdmaaDoor
