/- The walk of the reference's ratio Parse. -/
import Derived.Test.YtkbgdiejjabdmaaRhB
import Derived.Test.YtkbgdiejjabdmaaRgD
namespace Go.Proofs.Ytkbgdiejjabdmaa
open Go.RowKit

theorem byte_get {s : ByteArray} {j : Nat} (hj : j < s.size) : s.data.toList[j]? = some s[j] := by
  rw [List.getElem?_eq_getElem (by rw [size_len]; exact hj)]; rfl
theorem byte_47 {s : ByteArray} {j : Nat} (hj : j < s.size) : s.data.toList[j]? = some 47 ↔ (s[j].toNat : Int) = 47 := by
  rw [byte_get hj, Option.some.injEq]
  constructor
  · intro h; rw [h]; rfl
  · intro h
    apply UInt8.toNat_inj.1
    simp only [UInt8.reduceToNat]
    omega

set_option maxHeartbeats 8000000 in
theorem xrparse_c (w : World) (s : ByteArray) (hs : s.size ≤ 2000) :
    Calls Try.prog 36 #[.string s] w (RetE w (rErr s.data.toList) fun v w' => VQ w' w.heap.size v (rVal s.data.toList) 400) := by
  obtain ⟨l, hl⟩ : ∃ l, l = s.data.toList := ⟨_, rfl⟩
  obtain ⟨er, her⟩ : ∃ e, e = rErr l := ⟨_, rfl⟩
  obtain ⟨R, hR⟩ : ∃ r, r = rVal l := ⟨_, rfl⟩
  rw [← hl, ← her, ← hR]
  have HL := hid hl
  have HER := hid her
  have HRV := hid hR
  have HS := hid hs
  clear hl her hR hs
  go_enter Try.func36, Try.ntmps36
  go_wp2
  go_loop [4, 5] (fun at_ i => ∃ k : Nat, k ≤ s.size ∧ i = .int .i64 k ∧ ((at_ = .int .i64 (-1) ∧ Hid (∀ j, j < k → l[j]? ≠ some 47)) ∨ (∃ j : Nat, at_ = .int .i64 j ∧ k = j + 1 ∧ Hid (l[j]? = some 47 ∧ ∀ i, i < j → l[i]? ≠ some 47)))) (fun _ i => s.size - (intOf i).toNat)
  case atStart => exact ⟨0, Nat.zero_le _, rfl, .inl ⟨rfl, fun j h => absurd h (Nat.not_lt_zero _)⟩⟩
  case round =>
    obtain ⟨k, hk, rfl, ⟨rfl, HN⟩ | ⟨j, rfl, rfl, HJ⟩⟩ := hrel
    · by_cases hlt : k < s.size
      · have i0 : (0 : Int) ≤ k := by omega
        have i1 : (k : Int) < s.size := by omega
        have hkw : IntKind.i64.wrap ((k : Int) + 1) = (k : Int) + 1 := IntWalk.i64_in _ (by have := HS.out; omega)
        by_cases h47 : (s[k].toNat : Int) = 47
        · have hb : ((s[k].toNat : Int) == 47) = true := by rw [beq_iff_eq]; exact h47
          have H47 := hid h47
          clear h47
          go_wp2
          go_round
          case rel => exact ⟨k + 1, by omega, by go_num, .inr ⟨k, rfl, rfl, by rw [HL.out]; exact (byte_47 hlt).2 H47.out, HN.out⟩⟩
          case measure => simp [intOf]; omega
        · have hb : ((s[k].toNat : Int) == 47) = false := by rw [beq_eq_false_iff_ne]; exact h47
          have H47 := hid h47
          clear h47
          go_wp2
          go_round
          case rel =>
            refine ⟨k + 1, by omega, by go_num, .inl ⟨rfl, fun j hj => ?_⟩⟩
            by_cases hjk : j = k
            · subst hjk; rw [HL.out]; exact fun h => H47.out ((byte_47 hlt).1 h)
            · exact HN.out j (by omega)
          case measure => simp [intOf]; omega
      · have hcut : Lib.cut l [47] = (l, [], false) := cut_none (fun j => by
          by_cases hj : j < k
          · exact HN.out j hj
          · have : l.length ≤ j := by rw [HL.out, size_len]; omega
            rw [List.getElem?_eq_none this]; simp)
        have hE : er = zErr l := by rw [HER.out]; unfold rErr; rw [hcut]; exact if_neg (by simp)
        have hV : R = if er = 0 then (zVal l : Rat) else 0 := by
          rw [HRV.out, HER.out]; unfold rVal; rw [hcut]; simp only [Bool.false_eq_true, if_false]
        have HZP : Hid (∀ V : World, Calls Try.prog 72 #[.string s] V (RetE V (zErr l) fun v w' => VZ w' V.heap.size v (zVal l) 400)) := fun V => by
          rw [HL.out]; exact xzparse_c V s (Nat.le_trans HS.out (by decide))
        have HE := hid hE
        have HV := hid hV
        have i1 : ¬ (k : Int) < s.size := by omega
        clear hE hV hcut HN HER HRV HL hk
        go_wp2_with fail
        refine (HZP.out _).mono ?_
        rintro e w2 ⟨v2, rfl, hv2, hg2⟩
        obtain ⟨An, nn, cn, rfl, hv2⟩ := hv2.form
        obtain ⟨sn, hsn⟩ : ∃ b, b = decide (zVal l < 0) := ⟨_, rfl⟩
        rw [← hsn] at hv2 ⊢
        clear hsn
        obtain ⟨e1, he1⟩ : ∃ e, e = zErr l := ⟨_, rfl⟩
        rw [← he1] at HE ⊢
        clear he1
        obtain ⟨W2, hW2⟩ : ∃ V, V = w2.alloc (.cells #[.bool sn, .slice An nn cn] 25) := ⟨_, rfl⟩
        go_upto_region 9 with (fail)
        obtain ⟨hgl, bl⟩ := al1 w2 #[.bool sn, .slice An nn cn] 25
        rw [← hW2] at hgl bl ⊢
        clear hW2
        have hgr : Gr (w.alloc (.cells #[.bool false, .slice none 0 0, .slice none 0 0] 27)) W2 := hg2.trans hgl
        have HB := hid ((Blk.new w #[.bool false, .slice none 0 0, .slice none 0 0] 27).gr hgr)
        have HG := hid ((Gr.alloc w _).trans hgr)
        have HN := hid (hv2.gr hgl)
        have HBN := hid bl
        have y0 : W2.cell? ⟨w2.heap.size, 0, none⟩ = some (.bool sn) := bl.c 0 rfl
        have y1 : W2.cell? ⟨w2.heap.size, 1, none⟩ = some (.slice An nn cn) := bl.c 1 rfl
        have hlt : w.heap.size < w2.heap.size := Nat.lt_of_lt_of_le (by simp) hg2.size
        have HLT0 := hid hlt
        clear hv2 hg2 hgl bl hgr
        obtain ⟨z, hz⟩ : ∃ z, z = zVal l := ⟨_, rfl⟩
        rw [← hz] at HV HN
        clear hz
        by_cases h1 : e1 = 0
        · have hne : (e1 != 0) = false := by rw [h1]; rfl
          have hE : er = 0 := by rw [HE.out]; exact h1
          have hR : R = mkRat z 1 := by rw [HV.out, if_pos hE, Rat.mkRat_one]
          have HE2 := hid hE
          have HOF : Hid (∀ V : World, Calls Try.prog 73 #[.int .u64 1] V (Ret V fun v w' => VN w' V.heap.size v 1 2)) := fun V => xof_c V 1 (by decide) (by decide)
          have HLW : Hid (∀ (V : World) (x y : Value), AZ V x z 400 → AN V y 1 400 → Calls Try.prog 46 #[x, y] V (Ret V fun v w' => VQ w' V.heap.size v R 400)) := fun V x y h5 h6 => by
            rw [hR]; exact xreduce_c V x y z 1 400 h5 h6 (by decide) (by decide) (by decide)
          clear hE hR h1
          go_upto_region 11 with (fail)
          go_region_held3 (fun V => V.cell? ⟨w2.heap.size, 0, none⟩ = some (.bool sn) ∧ V.cell? ⟨w2.heap.size, 1, none⟩ = some (.slice An nn cn))
            (first
              | exact ⟨y0, y1⟩
              | with_reducible exact ⟨Gr.cell HG3.out y0, Gr.cell HG3.out y1⟩
              | with_reducible exact ⟨Gr.cell HG4.out y0, Gr.cell HG4.out y1⟩
              | with_reducible exact ⟨set3 (by dsimp only; omega) (Gr.cell HG4.out y0), set3 (by dsimp only; omega) (Gr.cell HG4.out y1)⟩)
            (first
              | (go_at_call 46; refine (HLW.out _ _ _ (HN.out.gr HG3.out).az HV3.out.an).mono ?_; rintro e w4 ⟨v4, rfl, hm, hg4⟩; obtain ⟨Az, nz, cz, Bz, kz, dz, rfl, hm⟩ := hm.form; obtain ⟨bb, hbb⟩ : ∃ b, b = decide (R.num < 0) := ⟨_, rfl⟩; rw [← hbb] at hm ⊢; have HG4 := hid (HG3.out.trans hg4); have HVQ := hid (hm.base (b' := W2.heap.size) HG3.out.size); have rc0 : w4.cell? ⟨w.heap.size, 0, none⟩ = some (.bool false) := (HB.out.gr HG4.out).c 0 rfl; have rc1 : w4.cell? ⟨w.heap.size, 1, none⟩ = some (.slice none 0 0) := (HB.out.gr HG4.out).c 1 rfl; have rc2 : w4.cell? ⟨w.heap.size, 2, none⟩ = some (.slice none 0 0) := (HB.out.gr HG4.out).c 2 rfl; have rf0 : w4.frozen? ⟨w.heap.size, 0, none⟩ = false := (HB.out.gr HG4.out).free 0; have rf1 : w4.frozen? ⟨w.heap.size, 1, none⟩ = false := (HB.out.gr HG4.out).free 1; have rf2 : w4.frozen? ⟨w.heap.size, 2, none⟩ = false := (HB.out.gr HG4.out).free 2; have rl : w.heap.size < w4.heap.size := (HB.out.gr HG4.out).lt; clear hm hg4 hbb)
              | (go_at_call 73; refine (HOF.out _).mono ?_; rintro e w3 ⟨v3, rfl, hv3, hg3⟩; have HV3 := hid (VN.one hv3 (show 1 ≤ 400 by decide)); have HG3 := hid (((Gr.refl W2).drew).trans hg3); clear hv3 hg3))
          have HLT := hid HB.out.lt
          go_wp2
          refine ratio_end_b rfl rfl rfl (HB.out.gr HG4.out) ?_
          intro V hV
          exact ⟨_, by rw [HE2.out]; rfl, (HVQ.out.exb hV HLT.out).base (Nat.le_of_lt HLT.out), (HG.out.trans HG4.out).ex hV (Nat.le_refl _)⟩
        · have hne : (e1 != 0) = true := by rw [bne_iff_ne]; exact h1
          have hE : er = e1 := HE.out
          have hR : R = 0 := by rw [HV.out, hE, if_neg h1]
          clear h1
          have HE2 := hid hE
          have HR0 := hid hR
          clear hE hR
          go_wp2_with fail
          refine (xrzero_c W2).mono ?_
          rintro e w4 ⟨v4, rfl, hm, hg4⟩
          have HX := hid (HB.out.gr hg4)
          have HG4 := hid (HG.out.trans hg4)
          obtain ⟨Az, nz, cz, Bz, kz, dz, rfl, hm⟩ := hm.form
          obtain ⟨bb, hbb⟩ : ∃ b, b = decide ((0 : Rat).num < 0) := ⟨_, rfl⟩
          rw [← hbb] at hm ⊢
          have HVQ := hid hm
          have HLT := hid HB.out.lt
          have r0 : w4.cell? ⟨w.heap.size, 0, none⟩ = some (.bool false) := HX.out.c 0 rfl
          have r1 : w4.cell? ⟨w.heap.size, 1, none⟩ = some (.slice none 0 0) := HX.out.c 1 rfl
          have r2 : w4.cell? ⟨w.heap.size, 2, none⟩ = some (.slice none 0 0) := HX.out.c 2 rfl
          have t0 : w4.frozen? ⟨w.heap.size, 0, none⟩ = false := HX.out.free 0
          have t1 : w4.frozen? ⟨w.heap.size, 1, none⟩ = false := HX.out.free 1
          have t2 : w4.frozen? ⟨w.heap.size, 2, none⟩ = false := HX.out.free 2
          have t3 : w.heap.size < w4.heap.size := HX.out.lt
          clear hm hbb hg4
          go_wp2
          refine ratio_end_b rfl rfl rfl HX.out ?_
          intro V hV
          exact ⟨_, by rw [HE2.out]; rfl, by rw [HR0.out]; exact ((HVQ.out.exb hV HLT.out).base (Nat.le_of_lt HLT.out)).le (by decide), HG4.out.ex hV (Nat.le_refl _)⟩
    · have hj : j < s.size := by omega
      have hcut : Lib.cut l [47] = (l.take j, l.drop (j + 1), true) := cut_some HJ.out.1 HJ.out.2
      obtain ⟨e2, he2⟩ : ∃ e, e = pErr (l.drop (j + 1)) := ⟨_, rfl⟩
      obtain ⟨k, hk2⟩ : ∃ k, k = pVal (l.drop (j + 1)) := ⟨_, rfl⟩
      obtain ⟨a, ha⟩ : ∃ a, a = l.take j := ⟨_, rfl⟩
      have hE : er = if zErr a = 0 then (if e2 = 0 then (if k = 0 then 2 else 0) else e2) else zErr a := by
        rw [HER.out]; unfold rErr; rw [hcut, ← ha, ← he2, ← hk2]; exact if_pos rfl
      have hV : R = if er = 0 then mkRat (zVal a) k else 0 := by
        rw [HRV.out, HER.out]; unfold rVal; rw [hcut, ← ha, ← hk2]; simp only [if_true]
      have hta : (s.extract 0 j).data.toList = a := by
        rw [ha, HL.out, ByteArray.data_extract, Array.toList_extract, List.extract_eq_take_drop]
        simp
      have htb : (s.extract (j + 1) s.size).data.toList = l.drop (j + 1) := by
        rw [HL.out, ByteArray.data_extract, Array.toList_extract, List.extract_eq_take_drop]
        rw [List.take_of_length_le]
        simp
      have HZP : Hid (∀ V : World, Calls Try.prog 72 #[.string (s.extract 0 j)] V (RetE V (zErr a) fun v w' => VZ w' V.heap.size v (zVal a) 400)) := fun V => by
        rw [← hta]; exact xzparse_c V _ (by have := HS.out; rw [ByteArray.size_extract]; omega)
      have HPA : Hid (∀ V : World, Calls Try.prog 74 #[.string (s.extract (j + 1) s.size)] V (RetE V e2 fun v w' => VN w' V.heap.size v k 400)) := fun V => by
        rw [he2, hk2, ← htb]; exact xparse_c V _ (by have := HS.out; rw [ByteArray.size_extract]; omega)
      have HE := hid hE
      have HV := hid hV
      have j0 : (0 : Int) ≤ j := by omega
      have j1 : (j : Int) ≤ s.size := by omega
      have j2 : (j : Int) + 1 ≤ s.size := by omega
      have j3 : ¬ (j : Int) < 0 := by omega
      have hwr : IntKind.i64.wrap ((j : Int) + 1) = (j : Int) + 1 := IntWalk.i64_in _ (by have := HS.out; omega)
      have hor : ((j + 1 : Nat) : Int) < s.size ∨ ¬ ((j + 1 : Nat) : Int) < s.size := by omega
      clear hE hV hcut HJ HER HRV HL hta htb ha he2 hk2 hk hj
      rcases hor with i1 | i1
      all_goals
        go_wp2_with fail
        refine (HZP.out _).mono ?_
        rintro e w2 ⟨v2, rfl, hv2, hg2⟩
        obtain ⟨An, nn, cn, rfl, hv2⟩ := hv2.form
        obtain ⟨sn, hsn⟩ : ∃ b, b = decide (zVal a < 0) := ⟨_, rfl⟩
        rw [← hsn] at hv2 ⊢
        clear hsn
        obtain ⟨e1, he1⟩ : ∃ e, e = zErr a := ⟨_, rfl⟩
        rw [← he1] at HE ⊢
        clear he1
        obtain ⟨W2, hW2⟩ : ∃ V, V = w2.alloc (.cells #[.bool sn, .slice An nn cn] 25) := ⟨_, rfl⟩
        go_upto_region 13 with (fail)
        obtain ⟨hgl, bl⟩ := al1 w2 #[.bool sn, .slice An nn cn] 25
        rw [← hW2] at hgl bl ⊢
        clear hW2
        have hgr : Gr (w.alloc (.cells #[.bool false, .slice none 0 0, .slice none 0 0] 27)) W2 := hg2.trans hgl
        have HB := hid ((Blk.new w #[.bool false, .slice none 0 0, .slice none 0 0] 27).gr hgr)
        have HG := hid ((Gr.alloc w _).trans hgr)
        have HN := hid (hv2.gr hgl)
        have HBN := hid bl
        have y0 : W2.cell? ⟨w2.heap.size, 0, none⟩ = some (.bool sn) := bl.c 0 rfl
        have y1 : W2.cell? ⟨w2.heap.size, 1, none⟩ = some (.slice An nn cn) := bl.c 1 rfl
        have hlt : w.heap.size < w2.heap.size := Nat.lt_of_lt_of_le (by simp) hg2.size
        have HLT0 := hid hlt
        clear hv2 hg2 hgl bl hgr
        obtain ⟨z, hz⟩ : ∃ z, z = zVal a := ⟨_, rfl⟩
        rw [← hz] at HV HN
        clear hz
        by_cases h1 : e1 = 0
        · have hne : (e1 != 0) = false := by rw [h1]; rfl
          have hE1 : er = if e2 = 0 then (if k = 0 then 2 else 0) else e2 := by rw [HE.out, if_pos h1]
          have HE1 := hid hE1
          clear hE1 h1
          go_wp2_with fail
          refine (HPA.out W2).mono ?_
          rintro e w3 ⟨v3, rfl, hv3, hg3⟩
          have HV3 := hid hv3
          have HB3 := hid (HB.out.gr hg3)
          have HG3 := hid (HG.out.trans hg3)
          have HGA := hid hg3
          have z0 : w3.cell? ⟨w2.heap.size, 0, none⟩ = some (.bool sn) := Gr.cell hg3 y0
          have z1 : w3.cell? ⟨w2.heap.size, 1, none⟩ = some (.slice An nn cn) := Gr.cell hg3 y1
          clear hv3 hg3 y0 y1
          by_cases h2 : e2 = 0
          · have hne2 : (e2 != 0) = false := by rw [h2]; rfl
            have HBK : Hid (∀ (V : World) (v : Value), AN V v k 400 → Calls Try.prog 43 #[v] V (Is V (.int .i64 (bitsN k)))) := fun V v h => xbits_c V v k 400 h (by decide)
            obtain ⟨bk, hbk⟩ : ∃ b : Int, b = bitsN k := ⟨_, rfl⟩
            rw [← hbk] at HBK
            by_cases h3 : k = 0
            · have hb3 : (bk == 0) = true := by rw [beq_iff_eq, hbk, bitsN_zero.2 h3]; rfl
              have hE : er = 2 := by rw [HE1.out, if_pos h2, if_pos h3]
              have hR : R = 0 := by rw [HV.out, hE]; rfl
              have HE2 := hid hE
              have HR0 := hid hR
              clear hE hR h2 h3 hbk
              go_wp2_with fail
              refine (HBK.out w3 v3 HV3.out.an).mono ?_
              rintro e w5 ⟨rfl, hg5⟩
              have HB5 := hid (HB3.out.gr hg5)
              have HG5 := hid (HG3.out.trans hg5)
              clear hg5 z0 z1
              go_wp2_with fail
              refine (xrzero_c w5).mono ?_
              rintro e w6 ⟨v4, rfl, hm, hgE⟩
              have HX := hid (HB5.out.gr hgE)
              have HGE := hid (HG5.out.trans hgE)
              obtain ⟨Az, nz, cz, Bz, kz, dz, rfl, hm⟩ := hm.form
              obtain ⟨bb, hbb⟩ : ∃ b, b = decide ((0 : Rat).num < 0) := ⟨_, rfl⟩
              rw [← hbb] at hm ⊢
              have HVQ := hid hm
              have HLT := hid HB5.out.lt
              have r0 : w6.cell? ⟨w.heap.size, 0, none⟩ = some (.bool false) := HX.out.c 0 rfl
              have r1 : w6.cell? ⟨w.heap.size, 1, none⟩ = some (.slice none 0 0) := HX.out.c 1 rfl
              have r2 : w6.cell? ⟨w.heap.size, 2, none⟩ = some (.slice none 0 0) := HX.out.c 2 rfl
              have t0 : w6.frozen? ⟨w.heap.size, 0, none⟩ = false := HX.out.free 0
              have t1 : w6.frozen? ⟨w.heap.size, 1, none⟩ = false := HX.out.free 1
              have t2 : w6.frozen? ⟨w.heap.size, 2, none⟩ = false := HX.out.free 2
              have t3 : w.heap.size < w6.heap.size := HX.out.lt
              clear hm hbb hgE
              go_wp2
              refine ratio_end_b rfl rfl rfl HX.out ?_
              intro V hV
              exact ⟨_, by rw [HE2.out]; rfl, by rw [HR0.out]; exact ((HVQ.out.exb hV HLT.out).base (Nat.le_of_lt HLT.out)).le (by decide), HGE.out.ex hV (Nat.le_refl _)⟩
            · have hb3 : (bk == 0) = false := by rw [beq_eq_false_iff_ne, hbk]; have := bitsN_pos h3; omega
              have hE : er = 0 := by rw [HE1.out, if_pos h2, if_neg h3]
              have hR : R = mkRat z k := by rw [HV.out, if_pos hE]
              have HE2 := hid hE
              have HLW : Hid (∀ (V : World) (x y : Value), AZ V x z 400 → AN V y k 400 → Calls Try.prog 46 #[x, y] V (Ret V fun v w' => VQ w' V.heap.size v R 400)) := fun V x y h5 h6 => by
                rw [hR]; exact xreduce_c V x y z k 400 h5 h6 (by omega) (by decide) (by decide)
              clear hE hR h2 h3 hbk
              go_wp2_with fail
              refine (HBK.out w3 v3 HV3.out.an).mono ?_
              rintro e w5 ⟨rfl, hg5⟩
              have HB5 := hid (HB3.out.gr hg5)
              have HG5 := hid (HG3.out.trans hg5)
              have HN5 := hid (HN.out.gr (HGA.out.trans hg5))
              have HV5 := hid (HV3.out.gr hg5)
              have x0 : w5.cell? ⟨w2.heap.size, 0, none⟩ = some (.bool sn) := Gr.cell hg5 z0
              have x1 : w5.cell? ⟨w2.heap.size, 1, none⟩ = some (.slice An nn cn) := Gr.cell hg5 z1
              clear hg5 z0 z1
              go_wp2_with fail
              refine (HLW.out w5 _ _ HN5.out.az HV5.out.an).mono ?_
              rintro e w6 ⟨v6, rfl, hm, hgE⟩
              have HX := hid (HB5.out.gr hgE)
              have HGE := hid (HG5.out.trans hgE)
              obtain ⟨Az, nz, cz, Bz, kz, dz, rfl, hm⟩ := hm.form
              obtain ⟨bb, hbb⟩ : ∃ b, b = decide ((R : Rat).num < 0) := ⟨_, rfl⟩
              rw [← hbb] at hm ⊢
              have HVQ := hid hm
              have HLT := hid HB5.out.lt
              have r0 : w6.cell? ⟨w.heap.size, 0, none⟩ = some (.bool false) := HX.out.c 0 rfl
              have r1 : w6.cell? ⟨w.heap.size, 1, none⟩ = some (.slice none 0 0) := HX.out.c 1 rfl
              have r2 : w6.cell? ⟨w.heap.size, 2, none⟩ = some (.slice none 0 0) := HX.out.c 2 rfl
              have t0 : w6.frozen? ⟨w.heap.size, 0, none⟩ = false := HX.out.free 0
              have t1 : w6.frozen? ⟨w.heap.size, 1, none⟩ = false := HX.out.free 1
              have t2 : w6.frozen? ⟨w.heap.size, 2, none⟩ = false := HX.out.free 2
              have t3 : w.heap.size < w6.heap.size := HX.out.lt
              clear hm hbb hgE
              go_wp2
              refine ratio_end_b rfl rfl rfl HX.out ?_
              intro V hV
              exact ⟨_, by rw [HE2.out]; rfl, (HVQ.out.exb hV HLT.out).base (Nat.le_of_lt HLT.out), HGE.out.ex hV (Nat.le_refl _)⟩
          · have hne2 : (e2 != 0) = true := by rw [bne_iff_ne]; exact h2
            have hE : er = e2 := by rw [HE1.out, if_neg h2]
            have hR : R = 0 := by rw [HV.out, hE, if_neg h2]
            have HE2 := hid hE
            have HR0 := hid hR
            clear hE hR h2 z0 z1
            go_wp2_with fail
            refine (xrzero_c w3).mono ?_
            rintro e w6 ⟨v4, rfl, hm, hgE⟩
            have HX := hid (HB3.out.gr hgE)
            have HGE := hid (HG3.out.trans hgE)
            obtain ⟨Az, nz, cz, Bz, kz, dz, rfl, hm⟩ := hm.form
            obtain ⟨bb, hbb⟩ : ∃ b, b = decide ((0 : Rat).num < 0) := ⟨_, rfl⟩
            rw [← hbb] at hm ⊢
            have HVQ := hid hm
            have HLT := hid HB3.out.lt
            have r0 : w6.cell? ⟨w.heap.size, 0, none⟩ = some (.bool false) := HX.out.c 0 rfl
            have r1 : w6.cell? ⟨w.heap.size, 1, none⟩ = some (.slice none 0 0) := HX.out.c 1 rfl
            have r2 : w6.cell? ⟨w.heap.size, 2, none⟩ = some (.slice none 0 0) := HX.out.c 2 rfl
            have t0 : w6.frozen? ⟨w.heap.size, 0, none⟩ = false := HX.out.free 0
            have t1 : w6.frozen? ⟨w.heap.size, 1, none⟩ = false := HX.out.free 1
            have t2 : w6.frozen? ⟨w.heap.size, 2, none⟩ = false := HX.out.free 2
            have t3 : w.heap.size < w6.heap.size := HX.out.lt
            clear hm hbb hgE
            go_wp2
            refine ratio_end_b rfl rfl rfl HX.out ?_
            intro V hV
            exact ⟨_, by rw [HE2.out]; rfl, by rw [HR0.out]; exact ((HVQ.out.exb hV HLT.out).base (Nat.le_of_lt HLT.out)).le (by decide), HGE.out.ex hV (Nat.le_refl _)⟩
        · have hne : (e1 != 0) = true := by rw [bne_iff_ne]; exact h1
          have hE : er = e1 := by rw [HE.out, if_neg h1]
          have hR : R = 0 := by rw [HV.out, hE, if_neg h1]
          clear h1
          have HE2 := hid hE
          have HR0 := hid hR
          clear hE hR
          go_wp2_with fail
          refine (xrzero_c W2).mono ?_
          rintro e w4 ⟨v4, rfl, hm, hg4⟩
          have HX := hid (HB.out.gr hg4)
          have HG4 := hid (HG.out.trans hg4)
          obtain ⟨Az, nz, cz, Bz, kz, dz, rfl, hm⟩ := hm.form
          obtain ⟨bb, hbb⟩ : ∃ b, b = decide ((0 : Rat).num < 0) := ⟨_, rfl⟩
          rw [← hbb] at hm ⊢
          have HVQ := hid hm
          have HLT := hid HB.out.lt
          have r0 : w4.cell? ⟨w.heap.size, 0, none⟩ = some (.bool false) := HX.out.c 0 rfl
          have r1 : w4.cell? ⟨w.heap.size, 1, none⟩ = some (.slice none 0 0) := HX.out.c 1 rfl
          have r2 : w4.cell? ⟨w.heap.size, 2, none⟩ = some (.slice none 0 0) := HX.out.c 2 rfl
          have t0 : w4.frozen? ⟨w.heap.size, 0, none⟩ = false := HX.out.free 0
          have t1 : w4.frozen? ⟨w.heap.size, 1, none⟩ = false := HX.out.free 1
          have t2 : w4.frozen? ⟨w.heap.size, 2, none⟩ = false := HX.out.free 2
          have t3 : w.heap.size < w4.heap.size := HX.out.lt
          clear hm hbb hg4
          go_wp2
          refine ratio_end_b rfl rfl rfl HX.out ?_
          intro V hV
          exact ⟨_, by rw [HE2.out]; rfl, by rw [HR0.out]; exact ((HVQ.out.exb hV HLT.out).base (Nat.le_of_lt HLT.out)).le (by decide), HG4.out.ex hV (Nat.le_refl _)⟩
end Go.Proofs.Ytkbgdiejjabdmaa
