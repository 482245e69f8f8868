/- The walk of ratio.Parse. -/
import Derived.Test.YtkbgdiejjabdmaaRhP
import Derived.Test.YtkbgdiejjabdmaaRatA
import Derived.Deep.Cut
namespace Go.Proofs.Ytkbgdiejjabdmaa
open Go.RowKit

set_option maxHeartbeats 4000000 in
theorem rparse_c (w : World) (s : ByteArray) (m : Int) (hs : s.size ≤ 2000) (hm : w.cell? ⟨0, 0, none⟩ = some (.int .i64 m)) :
    Calls Try.prog 35 #[.string s] w (RetE w (rErr s.data.toList) fun v w' => VQ w' w.heap.size v (rVal s.data.toList) 400) := by
  obtain ⟨l, hl⟩ : ∃ l, l = s.data.toList := ⟨_, rfl⟩
  obtain ⟨a, ha⟩ : ∃ a, a = (Lib.cut l [47]).1 := ⟨_, rfl⟩
  obtain ⟨b, hb⟩ : ∃ b, b = (Lib.cut l [47]).2.1 := ⟨_, rfl⟩
  obtain ⟨f, hf⟩ : ∃ f, f = (Lib.cut l [47]).2.2 := ⟨_, rfl⟩
  have HCT : Hid (∀ V : World, Gr w V → Calls Try.prog 69 #[.string s, .string ⟨#[47]⟩] V fun e w' => e = .returned (.tuple #[.string ⟨a.toArray⟩, .string ⟨b.toArray⟩, .bool f]) ∧ ∃ n, w' = V.drewN n) := fun V hV => by
    have h := Try.strings_Cut s ⟨#[47]⟩ m V (by omega) (Gr.cell hV hm)
    rw [ha, hb, hf, hl]
    exact h
  have hal : a.length ≤ 2000 := by
    have h4 : l.length ≤ 2000 := by rw [hl, size_len]; exact hs
    rw [ha]; unfold Lib.cut; split
    · simp only [List.length_take]; omega
    · exact h4
  have hfa : f = false → a = l := by
    intro h
    rw [hf] at h; rw [ha]
    unfold Lib.cut at h ⊢
    split
    · rename_i h5; rw [if_pos h5] at h; cases h
    · rfl
  have HZP : Hid (∀ V : World, Calls Try.prog 70 #[.string ⟨a.toArray⟩] V (RetE V (zErr a) fun v w' => VZ w' V.heap.size v (zVal a) 400)) := fun V => zparse_c V ⟨a.toArray⟩ (by show a.toArray.size ≤ _; simp; omega)
  have hbl : b.length ≤ 2000 := by
    have h4 : l.length ≤ 2000 := by rw [hl, size_len]; exact hs
    rw [hb]; unfold Lib.cut; split
    · simp only [List.length_drop]; omega
    · simp
  have HPA : Hid (∀ V : World, Calls Try.prog 71 #[.string ⟨b.toArray⟩] V (RetE V (pErr b) fun v w' => VN w' V.heap.size v (pVal b) 400)) := fun V => parse_c V ⟨b.toArray⟩ (by show b.toArray.size ≤ _; simp; omega)
  have hE : rErr l = if f = true then (if zErr a = 0 then (if pErr b = 0 then (if pVal b = 0 then 2 else 0) else pErr b) else zErr a) else zErr a := by
    unfold rErr
    rw [← hf, ← ha, ← hb]
    cases f with
    | true => rfl
    | false => simp only [Bool.false_eq_true, if_false]; rw [hfa rfl]
  have hV : rVal l = if rErr l = 0 then (if f = true then mkRat (zVal a) (pVal b) else (zVal a : Rat)) else 0 := by
    unfold rVal
    rw [← hf, ← ha, ← hb]
    cases f with
    | true => rfl
    | false => simp only [Bool.false_eq_true, if_false]; rw [hfa rfl]
  obtain ⟨er, her⟩ : ∃ e, e = rErr l := ⟨_, rfl⟩
  obtain ⟨R, hR⟩ : ∃ r, r = rVal l := ⟨_, rfl⟩
  rw [← her] at hE hV
  rw [← hR] at hV
  have HE := hid hE
  have HV := hid hV
  have HM := hid hm
  rw [← hl, ← her, ← hR]
  clear hm hl ha hb hf hfa hE hV her hR hal hbl
  go_enter Try.func35, Try.ntmps35
  go_wp2_with fail
  refine (HCT.out _ (Gr.alloc _ _)).mono ?_
  rintro e w1 ⟨rfl, nd, rfl⟩
  go_wp2_with fail
  refine (HZP.out _).mono ?_
  rintro e w2 ⟨v2, rfl, hv2, hg2⟩
  obtain ⟨An, nn, cn, rfl, hv2⟩ := hv2.form
  obtain ⟨sn, hsn⟩ : ∃ b, b = decide (zVal a < 0) := ⟨_, rfl⟩
  rw [← hsn] at hv2 ⊢
  clear hsn
  obtain ⟨e1, he1⟩ : ∃ e, e = zErr a := ⟨_, rfl⟩
  rw [← he1] at HE ⊢
  clear he1
  obtain ⟨W2, hW2⟩ : ∃ V, V = w2.alloc (.cells #[.bool sn, .slice An nn cn] 25) := ⟨_, rfl⟩
  go_upto_region 3 with (fail)
  obtain ⟨hgl, bl⟩ := al1 w2 #[.bool sn, .slice An nn cn] 25
  rw [← hW2] at hgl bl ⊢
  clear hW2
  have hgr : Gr (w.alloc (.cells #[.bool false, .slice none 0 0, .slice none 0 0] 27)) W2 := ((Gr.drewN _ nd).trans hg2).trans hgl
  have HB := hid ((Blk.new w #[.bool false, .slice none 0 0, .slice none 0 0] 27).gr hgr)
  have HG := hid ((Gr.alloc w _).trans hgr)
  have HN := hid (hv2.gr hgl)
  have HBN := hid bl
  have y0 : W2.cell? ⟨w2.heap.size, 0, none⟩ = some (.bool sn) := bl.c 0 rfl
  have y1 : W2.cell? ⟨w2.heap.size, 1, none⟩ = some (.slice An nn cn) := bl.c 1 rfl
  have hlt : w.heap.size < w2.heap.size := Nat.lt_of_lt_of_le (by simp) ((Gr.drewN _ nd).trans hg2).size
  have HLT0 := hid hlt
  clear hv2 hg2 hgl bl hgr
  obtain ⟨z, hz⟩ : ∃ z, z = zVal a := ⟨_, rfl⟩
  rw [← hz] at HV HN
  clear hz
  by_cases h1 : e1 = 0
  · have hne : (e1 != 0) = false := by rw [h1]; rfl
    cases f with
    | false =>
      have hE : er = 0 := by rw [HE.out, if_neg (by decide)]; exact h1
      have hR : R = mkRat z 1 := by rw [HV.out, if_pos hE, if_neg (by decide), Rat.mkRat_one]
      have HE2 := hid hE
      have HOF : Hid (∀ V : World, Calls Try.prog 61 #[.int .u64 1] V (Ret V fun v w' => VN w' V.heap.size v 1 2)) := fun V => of_c V 1 (by decide) (by decide)
      have HLW : Hid (∀ (V : World) (x y : Value), AZ V x z 400 → AN V y 1 400 → Calls Try.prog 41 #[x, y] V (Ret V fun v w' => VQ w' V.heap.size v R 400)) := fun V x y h3 h4 => by
        rw [hR]; exact lowest_c V x y z 1 400 h3 h4 (by decide) (by decide)
      clear hE hR h1
      go_upto_region 6 with (fail)
      go_region_held3 (fun V => V.cell? ⟨w2.heap.size, 0, none⟩ = some (.bool sn) ∧ V.cell? ⟨w2.heap.size, 1, none⟩ = some (.slice An nn cn))
        (first
          | exact ⟨y0, y1⟩
          | with_reducible exact ⟨Gr.cell HG3.out y0, Gr.cell HG3.out y1⟩
          | with_reducible exact ⟨Gr.cell HG4.out y0, Gr.cell HG4.out y1⟩
          | with_reducible exact ⟨set3 (by dsimp only; omega) (Gr.cell HG4.out y0), set3 (by dsimp only; omega) (Gr.cell HG4.out y1)⟩)
        (first
          | (go_at_call 41; refine (HLW.out _ _ _ (HN.out.gr HG3.out).az HV3.out.an).mono ?_; rintro e w4 ⟨v4, rfl, hm, hg4⟩; obtain ⟨Az, nz, cz, Bz, kz, dz, rfl, hm⟩ := hm.form; obtain ⟨bb, hbb⟩ : ∃ b, b = decide (R.num < 0) := ⟨_, rfl⟩; rw [← hbb] at hm ⊢; have HG4 := hid (HG3.out.trans hg4); have HVQ := hid (hm.base (b' := W2.heap.size) HG3.out.size); have rc0 : w4.cell? ⟨w.heap.size, 0, none⟩ = some (.bool false) := (HB.out.gr HG4.out).c 0 rfl; have rc1 : w4.cell? ⟨w.heap.size, 1, none⟩ = some (.slice none 0 0) := (HB.out.gr HG4.out).c 1 rfl; have rc2 : w4.cell? ⟨w.heap.size, 2, none⟩ = some (.slice none 0 0) := (HB.out.gr HG4.out).c 2 rfl; have rf0 : w4.frozen? ⟨w.heap.size, 0, none⟩ = false := (HB.out.gr HG4.out).free 0; have rf1 : w4.frozen? ⟨w.heap.size, 1, none⟩ = false := (HB.out.gr HG4.out).free 1; have rf2 : w4.frozen? ⟨w.heap.size, 2, none⟩ = false := (HB.out.gr HG4.out).free 2; have rl : w.heap.size < w4.heap.size := (HB.out.gr HG4.out).lt; clear hm hg4 hbb)
          | (go_at_call 61; refine (HOF.out _).mono ?_; rintro e w3 ⟨v3, rfl, hv3, hg3⟩; have HV3 := hid (VN.one hv3 (show 1 ≤ 400 by decide)); have HG3 := hid (((Gr.refl W2).drew).trans hg3); clear hv3 hg3))
      have HLT := hid HB.out.lt
      go_wp2
      refine ratio_end_b rfl rfl rfl (HB.out.gr HG4.out) ?_
      intro V hV
      exact ⟨_, by rw [HE2.out]; rfl, (HVQ.out.exb hV HLT.out).base (Nat.le_of_lt HLT.out), (HG.out.trans HG4.out).ex hV (Nat.le_refl _)⟩
    | true =>
      obtain ⟨e2, he2⟩ : ∃ e, e = pErr b := ⟨_, rfl⟩
      obtain ⟨k, hk⟩ : ∃ k, k = pVal b := ⟨_, rfl⟩
      rw [← he2, ← hk] at HE HPA
      rw [← hk] at HV
      clear he2 hk
      have hE1 : er = if e2 = 0 then (if k = 0 then 2 else 0) else e2 := by rw [HE.out, if_pos rfl, if_pos h1]
      have HE1 := hid hE1
      clear hE1 h1
      go_wp2_with fail
      refine (HPA.out W2).mono ?_
      rintro e w3 ⟨v3, rfl, hv3, hg3⟩
      have HV3 := hid hv3
      have HB3 := hid (HB.out.gr hg3)
      have HG3 := hid (HG.out.trans hg3)
      have HGA := hid hg3
      have z0 : w3.cell? ⟨w2.heap.size, 0, none⟩ = some (.bool sn) := Gr.cell hg3 y0
      have z1 : w3.cell? ⟨w2.heap.size, 1, none⟩ = some (.slice An nn cn) := Gr.cell hg3 y1
      clear hv3 hg3 y0 y1
      by_cases h2 : e2 = 0
      · have hne2 : (e2 != 0) = false := by rw [h2]; rfl
        have HBK : Hid (∀ (V : World) (v : Value), AN V v k 400 → Calls Try.prog 39 #[v] V (Is V (.int .i64 (bitsN k)))) := fun V v h => bits_c V v k 400 h (by decide)
        obtain ⟨bk, hbk⟩ : ∃ b : Int, b = bitsN k := ⟨_, rfl⟩
        rw [← hbk] at HBK
        by_cases h3 : k = 0
        · have hb3 : (bk == 0) = true := by rw [beq_iff_eq, hbk, bitsN_zero.2 h3]; rfl
          have hE : er = 2 := by rw [HE1.out, if_pos h2, if_pos h3]
          have hR : R = 0 := by rw [HV.out, hE]; rfl
          have HE2 := hid hE
          have HR0 := hid hR
          clear hE hR h2 h3 hbk
          go_wp2_with fail
          refine (HBK.out w3 v3 HV3.out.an).mono ?_
          rintro e w5 ⟨rfl, hg5⟩
          have HB5 := hid (HB3.out.gr hg5)
          have HG5 := hid (HG3.out.trans hg5)
          clear hg5 z0 z1
          go_wp2_with fail
          refine (rzero_c w5).mono ?_
          rintro e w6 ⟨v4, rfl, hm, hgE⟩
          have HX := hid (HB5.out.gr hgE)
          have HGE := hid (HG5.out.trans hgE)
          obtain ⟨Az, nz, cz, Bz, kz, dz, rfl, hm⟩ := hm.form
          obtain ⟨bb, hbb⟩ : ∃ b, b = decide ((0 : Rat).num < 0) := ⟨_, rfl⟩
          rw [← hbb] at hm ⊢
          have HVQ := hid hm
          have HLT := hid HB5.out.lt
          have r0 : w6.cell? ⟨w.heap.size, 0, none⟩ = some (.bool false) := HX.out.c 0 rfl
          have r1 : w6.cell? ⟨w.heap.size, 1, none⟩ = some (.slice none 0 0) := HX.out.c 1 rfl
          have r2 : w6.cell? ⟨w.heap.size, 2, none⟩ = some (.slice none 0 0) := HX.out.c 2 rfl
          have t0 : w6.frozen? ⟨w.heap.size, 0, none⟩ = false := HX.out.free 0
          have t1 : w6.frozen? ⟨w.heap.size, 1, none⟩ = false := HX.out.free 1
          have t2 : w6.frozen? ⟨w.heap.size, 2, none⟩ = false := HX.out.free 2
          have t3 : w.heap.size < w6.heap.size := HX.out.lt
          clear hm hbb hgE
          go_wp2
          refine ratio_end_b rfl rfl rfl HX.out ?_
          intro V hV
          exact ⟨_, by rw [HE2.out]; rfl, by rw [HR0.out]; exact ((HVQ.out.exb hV HLT.out).base (Nat.le_of_lt HLT.out)).le (by decide), HGE.out.ex hV (Nat.le_refl _)⟩
        · have hb3 : (bk == 0) = false := by rw [beq_eq_false_iff_ne, hbk]; have := bitsN_pos h3; omega
          have hE : er = 0 := by rw [HE1.out, if_pos h2, if_neg h3]
          have hR : R = mkRat z k := by rw [HV.out, if_pos hE]; exact if_pos trivial
          have HE2 := hid hE
          have HLW : Hid (∀ (V : World) (x y : Value), AZ V x z 400 → AN V y k 400 → Calls Try.prog 41 #[x, y] V (Ret V fun v w' => VQ w' V.heap.size v R 400)) := fun V x y h3 h4 => by
            rw [hR]; exact lowest_c V x y z k 400 h3 h4 (by decide) (by decide)
          clear hE hR h2 h3 hbk
          go_wp2_with fail
          refine (HBK.out w3 v3 HV3.out.an).mono ?_
          rintro e w5 ⟨rfl, hg5⟩
          have HB5 := hid (HB3.out.gr hg5)
          have HG5 := hid (HG3.out.trans hg5)
          have HN5 := hid (HN.out.gr (HGA.out.trans hg5))
          have HV5 := hid (HV3.out.gr hg5)
          have x0 : w5.cell? ⟨w2.heap.size, 0, none⟩ = some (.bool sn) := Gr.cell hg5 z0
          have x1 : w5.cell? ⟨w2.heap.size, 1, none⟩ = some (.slice An nn cn) := Gr.cell hg5 z1
          clear hg5 z0 z1
          go_wp2_with fail
          refine (HLW.out w5 _ _ HN5.out.az HV5.out.an).mono ?_
          rintro e w6 ⟨v6, rfl, hm, hgE⟩
          have HX := hid (HB5.out.gr hgE)
          have HGE := hid (HG5.out.trans hgE)
          obtain ⟨Az, nz, cz, Bz, kz, dz, rfl, hm⟩ := hm.form
          obtain ⟨bb, hbb⟩ : ∃ b, b = decide ((R : Rat).num < 0) := ⟨_, rfl⟩
          rw [← hbb] at hm ⊢
          have HVQ := hid hm
          have HLT := hid HB5.out.lt
          have r0 : w6.cell? ⟨w.heap.size, 0, none⟩ = some (.bool false) := HX.out.c 0 rfl
          have r1 : w6.cell? ⟨w.heap.size, 1, none⟩ = some (.slice none 0 0) := HX.out.c 1 rfl
          have r2 : w6.cell? ⟨w.heap.size, 2, none⟩ = some (.slice none 0 0) := HX.out.c 2 rfl
          have t0 : w6.frozen? ⟨w.heap.size, 0, none⟩ = false := HX.out.free 0
          have t1 : w6.frozen? ⟨w.heap.size, 1, none⟩ = false := HX.out.free 1
          have t2 : w6.frozen? ⟨w.heap.size, 2, none⟩ = false := HX.out.free 2
          have t3 : w.heap.size < w6.heap.size := HX.out.lt
          clear hm hbb hgE
          go_wp2
          refine ratio_end_b rfl rfl rfl HX.out ?_
          intro V hV
          exact ⟨_, by rw [HE2.out]; rfl, (HVQ.out.exb hV HLT.out).base (Nat.le_of_lt HLT.out), HGE.out.ex hV (Nat.le_refl _)⟩
      · have hne2 : (e2 != 0) = true := by rw [bne_iff_ne]; exact h2
        have hE : er = e2 := by rw [HE1.out, if_neg h2]
        have hR : R = 0 := by rw [HV.out, hE, if_neg h2]
        have HE2 := hid hE
        have HR0 := hid hR
        clear hE hR h2 z0 z1
        go_wp2_with fail
        refine (rzero_c w3).mono ?_
        rintro e w6 ⟨v4, rfl, hm, hgE⟩
        have HX := hid (HB3.out.gr hgE)
        have HGE := hid (HG3.out.trans hgE)
        obtain ⟨Az, nz, cz, Bz, kz, dz, rfl, hm⟩ := hm.form
        obtain ⟨bb, hbb⟩ : ∃ b, b = decide ((0 : Rat).num < 0) := ⟨_, rfl⟩
        rw [← hbb] at hm ⊢
        have HVQ := hid hm
        have HLT := hid HB3.out.lt
        have r0 : w6.cell? ⟨w.heap.size, 0, none⟩ = some (.bool false) := HX.out.c 0 rfl
        have r1 : w6.cell? ⟨w.heap.size, 1, none⟩ = some (.slice none 0 0) := HX.out.c 1 rfl
        have r2 : w6.cell? ⟨w.heap.size, 2, none⟩ = some (.slice none 0 0) := HX.out.c 2 rfl
        have t0 : w6.frozen? ⟨w.heap.size, 0, none⟩ = false := HX.out.free 0
        have t1 : w6.frozen? ⟨w.heap.size, 1, none⟩ = false := HX.out.free 1
        have t2 : w6.frozen? ⟨w.heap.size, 2, none⟩ = false := HX.out.free 2
        have t3 : w.heap.size < w6.heap.size := HX.out.lt
        clear hm hbb hgE
        go_wp2
        refine ratio_end_b rfl rfl rfl HX.out ?_
        intro V hV
        exact ⟨_, by rw [HE2.out]; rfl, by rw [HR0.out]; exact ((HVQ.out.exb hV HLT.out).base (Nat.le_of_lt HLT.out)).le (by decide), HGE.out.ex hV (Nat.le_refl _)⟩
  · have hne : (e1 != 0) = true := by rw [bne_iff_ne]; exact h1
    have hE : er = e1 := by rw [HE.out]; cases f <;> simp [h1]
    have hR : R = 0 := by rw [HV.out, hE, if_neg h1]
    have HE2 := hid hE
    have HR0 := hid hR
    clear hE hR
    go_wp2_with fail
    refine (rzero_c W2).mono ?_
    rintro e w4 ⟨v4, rfl, hm, hg4⟩
    have HX := hid (HB.out.gr hg4)
    have HG4 := hid (HG.out.trans hg4)
    obtain ⟨Az, nz, cz, Bz, kz, dz, rfl, hm⟩ := hm.form
    obtain ⟨bb, hbb⟩ : ∃ b, b = decide ((0 : Rat).num < 0) := ⟨_, rfl⟩
    rw [← hbb] at hm ⊢
    have HVQ := hid hm
    have HLT := hid HB.out.lt
    have r0 : w4.cell? ⟨w.heap.size, 0, none⟩ = some (.bool false) := HX.out.c 0 rfl
    have r1 : w4.cell? ⟨w.heap.size, 1, none⟩ = some (.slice none 0 0) := HX.out.c 1 rfl
    have r2 : w4.cell? ⟨w.heap.size, 2, none⟩ = some (.slice none 0 0) := HX.out.c 2 rfl
    have t0 : w4.frozen? ⟨w.heap.size, 0, none⟩ = false := HX.out.free 0
    have t1 : w4.frozen? ⟨w.heap.size, 1, none⟩ = false := HX.out.free 1
    have t2 : w4.frozen? ⟨w.heap.size, 2, none⟩ = false := HX.out.free 2
    have t3 : w.heap.size < w4.heap.size := HX.out.lt
    clear hm hbb hg4
    go_wp2
    refine ratio_end_b rfl rfl rfl HX.out ?_
    intro V hV
    exact ⟨_, by rw [HE2.out]; rfl, by rw [HR0.out]; exact ((HVQ.out.exb hV HLT.out).base (Nat.le_of_lt HLT.out)).le (by decide), HG4.out.ex hV (Nat.le_refl _)⟩
end Go.Proofs.Ytkbgdiejjabdmaa
