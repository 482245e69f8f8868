/- The walk of the law RatioFloor. -/
import Derived.Test.YtkbgdiejjabdmaaLawB
import Derived.Test.YtkbgdiejjabdmaaRatL
import Derived.Deep.CutRange
namespace Go.Proofs.Ytkbgdiejjabdmaa
open Go.RowKit

/-- A ratio in a variable. -/
def RatAt (W : World) (q : Rat) (L : Nat) (a b : Value) (V : World) : Prop := ∃ g s A l c B m e, a = .pointer (some ⟨g, 0, none⟩) ∧ b = .bool true ∧ Blk V g #[.bool s, .slice A l c, .slice B m e] 27 ∧ VQ V W.heap.size (.agg #[.bool s, .slice A l c, .slice B m e]) q L ∧ Gr W V

theorem rat_at1 {W w : World} {v : Value} {q : Rat} {L b : Nat} {s : Bool} {A B : Option Addr} {l c m e : Nat} (hG : Gr W w) (hv : VQ w b (.agg #[.bool s, .slice A l c, .slice B m e]) q L) (hb : W.heap.size ≤ b) (hp : v = .bool true) :
    RatAt W q L (.pointer (some ⟨w.heap.size, 0, none⟩)) v (w.alloc (.cells #[.bool s, .slice A l c, .slice B m e] 27)) :=
  ⟨_, s, A, l, c, B, m, e, rfl, hp, Blk.new w _ _, (hv.gr (Gr.alloc _ _)).base hb, hG.trans (Gr.alloc _ _)⟩
theorem rat_at2 {W w : World} {v : Value} {q : Rat} {L b g : Nat} {s : Bool} {A B : Option Addr} {l c m e : Nat} {x y z : Value} (hG : Gr W w) (hv : VQ w b (.agg #[.bool s, .slice A l c, .slice B m e]) q L) (hB : Blk w g #[x, y, z] 27) (hb : W.heap.size ≤ b) (hg : W.heap.size ≤ g) (hgb : g < b) (hp : v = .bool true) :
    RatAt W q L (.pointer (some ⟨g, 0, none⟩)) v (((w.setCell ⟨g, 0, none⟩ (.bool s)).setCell ⟨g, 1, none⟩ (.slice A l c)).setCell ⟨g, 2, none⟩ (.slice B m e)) := by
  have hx := (((Ex.refl g w).setCell 0 (.bool s)).setCell 1 (.slice A l c)).setCell 2 (.slice B m e)
  exact ⟨_, s, A, l, c, B, m, e, rfl, hp, ((hB.set 0 _).set 1 _).set 2 _, (hv.exb hx hgb).base hb, hG.ex hx hg⟩

set_option maxHeartbeats 4000000 in
theorem ratiofloor_law (W : World) {s : Bool} {A B : Option Addr} {l c m e n k : Nat} (hn : AN W (.slice A l c) n l) (hk : AN W (.slice B m e) k m) : Calls Try.prog 6 #[.agg #[.bool s, .slice A l c, .slice B m e]] W (Is W (.bool true)) := by
  by_cases hlg : 40 < l ∨ 40 < m
  · have hb : (decide (40 < l) || decide (40 < m)) = true := by simpa using hlg
    have HLG : Hid (∀ V : World, Calls Try.prog 17 #[.agg #[.bool s, .slice A l c, .slice B m e]] V (Is V (.bool true))) := fun V => by
      have h := large_c V s A B l c m e
      rw [hb] at h
      exact h
    clear hlg hb hn hk
    go_enter Try.func6, Try.ntmps6
    go_wp2_with fail
    refine (HLG.out _).mono ?_
    rintro e w1 ⟨rfl, hg1⟩
    have HG1 := hid ((Gr.alloc W _).trans hg1)
    clear hg1
    go_wp2
    go_ret
    exact ⟨rfl, HG1.out⟩
  · have hb : (decide (40 < l) || decide (40 < m)) = false := by simp; omega
    have HLG : Hid (∀ V : World, Calls Try.prog 17 #[.agg #[.bool s, .slice A l c, .slice B m e]] V (Is V (.bool false))) := fun V => by
      have h := large_c V s A B l c m e
      rw [hb] at h
      exact h
    obtain ⟨q, hq⟩ : ∃ q, q = mkRat (sgnd s n) k := ⟨_, rfl⟩
    have HA : Hid (AQ W (.agg #[.bool s, .slice A l c, .slice B m e]) q 40) := ⟨s, _, _, n, k, rfl, hn.le (by omega), hk.le (by omega), hq⟩
    obtain ⟨R, hR⟩ : ∃ R, R = Rat.divInt q.floor 1 := ⟨_, rfl⟩
    have HMK : Hid (∀ (V : World) (f o : Value), AZ V f q.floor 41 → AZ V o 1 2 → Calls Try.prog 13 #[f, o] V (RetB V true fun v w' => VQ w' V.heap.size v R 41)) := fun V f o hf ho => by
      have h := rmake_c V f o q.floor 1 41 hf (ho.le (by decide)) (by decide) (by decide)
      rw [← hR] at h
      exact h
    obtain ⟨R2, hR2⟩ : ∃ R, R = Rat.divInt (q.floor + 1) 1 := ⟨_, rfl⟩
    have HMK2 : Hid (∀ (V : World) (f o : Value), AZ V f (q.floor + 1) 42 → AZ V o 1 2 → Calls Try.prog 13 #[f, o] V (RetB V true fun v w' => VQ w' V.heap.size v R2 42)) := fun V f o hf ho => by
      have h := rmake_c V f o (q.floor + 1) 1 42 hf (ho.le (by decide)) (by decide) (by decide)
      rw [← hR2] at h
      exact h
    obtain ⟨k1, hk1⟩ : ∃ k, k = cmpQ R q := ⟨_, rfl⟩
    obtain ⟨k2, hk2⟩ : ∃ k, k = cmpQ q R2 := ⟨_, rfl⟩
    have HK1 : Hid (k1 ≤ 0) := by have h := cmpQ_floor q; rw [← hR, ← hk1] at h; show k1 ≤ 0; omega
    have HK2 : Hid (k2 < 0) := by have h := cmpQ_floor1 q; rw [← hR2, ← hk2] at h; exact h
    have HC1 : Hid (∀ (V : World) (u v : Value), AQ V u R 42 → AQ V v q 42 → Calls Try.prog 18 #[u, v] V (Is V (.int .i64 k1))) := fun V u v h1 h2 => by
      have h := rcmp_c V u v R q 42 h1 h2 (by decide) (by decide)
      rw [← hk1] at h
      exact h
    have HC2 : Hid (∀ (V : World) (u v : Value), AQ V u q 42 → AQ V v R2 42 → Calls Try.prog 18 #[u, v] V (Is V (.int .i64 k2))) := fun V u v h1 h2 => by
      have h := rcmp_c V u v q R2 42 h1 h2 (by decide) (by decide)
      rw [← hk2] at h
      exact h
    clear hlg hb hn hk hq n k hR hR2 hk1 hk2
    go_enter Try.func6, Try.ntmps6
    go_wp2_with fail
    obtain ⟨W0, hW0⟩ : ∃ V, V = W.alloc (.cells #[.bool s, .slice A l c, .slice B m e] 27) := ⟨_, rfl⟩
    obtain ⟨hg, b0⟩ := al1 W #[.bool s, .slice A l c, .slice B m e] 27
    rw [← hW0] at hg b0 ⊢
    clear hW0
    have HB0 := hid b0
    have HG := hid hg
    clear b0 hg
    refine (HLG.out W0).mono ?_
    rintro e w1 ⟨rfl, hg1⟩
    have HG1 := hid hg1
    clear hg1
    go_wp2_with fail
    refine (zof_c w1 1 (by decide) (by decide)).mono ?_
    rintro e w2 ⟨one, rfl, h1, hg2⟩
    obtain ⟨Ao, no, co, rfl, h1⟩ := h1.form
    obtain ⟨bo, hbo⟩ : ∃ b, b = decide ((1 : Int) < 0) := ⟨_, rfl⟩
    rw [← hbo] at h1 ⊢
    have HONE := hid h1
    have HG2 := hid (HG1.out.trans hg2)
    clear h1 hg2 hbo
    go_upto_region 4 with (fail)
    obtain ⟨W3, hW3⟩ : ∃ V, V = w2.alloc (.cells #[.bool bo, .slice Ao no co] 25) := ⟨_, rfl⟩
    obtain ⟨hg, b1⟩ := al1 w2 #[.bool bo, .slice Ao no co] 25
    rw [← hW3] at hg b1 ⊢
    clear hW3
    have HO := hid (HONE.out.az.gr hg)
    have HQ3 := hid (HA.out.gr ((HG.out.trans HG2.out).trans hg))
    have HB3 := hid (HB0.out.gr (HG2.out.trans hg))
    have HG3 := hid (HG2.out.trans hg)
    have HO3 := hid b1
    clear hg b1
    have c00 := HB3.out.c 0 rfl
    have c01 := HB3.out.c 1 rfl
    have c02 := HB3.out.c 2 rfl
    have c10 := HO3.out.c 0 rfl
    have c11 := HO3.out.c 1 rfl
    go_cut [4, 5] from 11 to 17 (fun a b V => Hid (RatAt W3 R 41 a b V))
    case first =>
      first | go_region_held3 (fun V => Gr W3 V ∧ V.cell? ⟨W.heap.size, 0, none⟩ = some (.bool s) ∧ V.cell? ⟨W.heap.size, 1, none⟩ = some (.slice A l c) ∧ V.cell? ⟨W.heap.size, 2, none⟩ = some (.slice B m e) ∧ V.cell? ⟨w2.heap.size, 0, none⟩ = some (.bool bo) ∧ V.cell? ⟨w2.heap.size, 1, none⟩ = some (.slice Ao no co))
        ((refine (fun G => ⟨G, Gr.cell G c00, Gr.cell G c01, Gr.cell G c02, Gr.cell G c10, Gr.cell G c11⟩) ?_; first
          | exact (Gr.refl W3).drew
          | with_reducible exact GM.out
          | with_reducible exact GF.out
          | exact Gr.trans (‹Gr W3 _ ∧ _›).1 (Gr.alloc _ _)
          | exact Gr.trans GM.out (Gr.alloc _ _)
          | exact Below.setCell (Below.setCell (Below.setCell (‹Gr W3 _ ∧ _›).1 (by first | exact GF.out.size | exact Nat.le_refl _) _) (by first | exact GF.out.size | exact Nat.le_refl _) _) (by first | exact GF.out.size | exact Nat.le_refl _) _))
        (first
          | (go_at_call 29; refine (rfloor_c _ _ q 40 (HQ3.out.gr (‹Gr W3 _ ∧ _›).1) (by decide) (by decide)).mono ?_; rintro e w4 ⟨f, rfl, hf, hg⟩; have HF := hid hf.az; have GF := hid ((‹Gr W3 _ ∧ _›).1.trans hg); (try (have BZ : Hid (Blk w4 W3.heap.size #[.bool false, .slice none 0 0, .slice none 0 0] 27) := hid ((Blk.new W3 #[.bool false, .slice none 0 0, .slice none 0 0] 27).gr ((Gr.refl _).drew.trans hg)))); clear hf hg)
          | (go_at_call 13; refine (HMK.out _ f _ (HF.out.gr (by first | exact Gr.refl _ | exact Gr.alloc _ _)) (HO.out.gr (‹Gr W3 _ ∧ _›).1)).mono ?_; rintro e w5 ⟨vr, rfl, hm, hg⟩; obtain ⟨Az, nz, cz, Bz, kz, dz, rfl, hm⟩ := hm.form; obtain ⟨bb, hbb⟩ : ∃ b, b = decide (R.num < 0) := ⟨_, rfl⟩; rw [← hbb] at hm ⊢; have HVQ := hid hm; have GM := hid ((‹Gr W3 _ ∧ _›).1.trans hg); (try (have BZ2 := hid ((Blk.new _ #[.bool false, .slice none 0 0, .slice none 0 0] 27).gr hg))); (try (have BZ2 := hid (BZ.out.gr hg))); have z0 := BZ2.out.c 0 rfl; have z1 := BZ2.out.c 1 rfl; have z2 := BZ2.out.c 2 rfl; have f0 := BZ2.out.free 0; have f1 := BZ2.out.free 1; have f2 := BZ2.out.free 2; have f3 := BZ2.out.lt; clear hm hbb hg)
          | (go_at_call 13; refine (HMK.out _ f _ (HF.out.gr (by first | exact Gr.refl _ | exact Gr.alloc _ _)) (HO.out.gr (‹Gr W3 _ ∧ _›).1)).mono ?_; rintro e w5 ⟨vr, rfl, hm, hg⟩; obtain ⟨Az, nz, cz, Bz, kz, dz, rfl, hm⟩ := hm.form; obtain ⟨bb, hbb⟩ : ∃ b, b = decide (R.num < 0) := ⟨_, rfl⟩; rw [← hbb] at hm ⊢; have HVQ := hid hm; have GM := hid ((‹Gr W3 _ ∧ _›).1.trans hg); clear hm hbb hg))
      all_goals go_wp2_with fail
      all_goals go_meet
      all_goals first
        | exact rat_at1 GM.out HVQ.out (by have := GF.out.size; first | exact this | (simp; omega)) rfl
        | exact rat_at2 GM.out HVQ.out BZ2.out (by have := GF.out.size; first | exact this | (simp; omega)) (by have := GF.out.size; first | exact this | exact Nat.le_refl _) (by first | exact BZ.out.lt | simp) rfl
    case rest =>
      obtain ⟨w9, hw9⟩ : ∃ V, V = wc := ⟨_, rfl⟩
      subst hw9
      obtain ⟨g1, s1, A1, l1, c1, B1, m1, e1, rfl, rfl, hb, hv, hg⟩ := hcut.out
      have HBL := hid hb
      have HLO := hid hv
      have HGC := hid hg
      have HO := hid (HO.out.gr hg)
      have HQC := hid (HQ3.out.gr hg)
      have d00 : w9.cell? ⟨W.heap.size, 0, none⟩ = some (.bool s) := Gr.cell hg c00
      have d01 : w9.cell? ⟨W.heap.size, 1, none⟩ = some (.slice A l c) := Gr.cell hg c01
      have d02 : w9.cell? ⟨W.heap.size, 2, none⟩ = some (.slice B m e) := Gr.cell hg c02
      have d10 : w9.cell? ⟨w2.heap.size, 0, none⟩ = some (.bool bo) := Gr.cell hg c10
      have d11 : w9.cell? ⟨w2.heap.size, 1, none⟩ = some (.slice Ao no co) := Gr.cell hg c11
      clear hcut hb hv hg c00 c01 c02 c10 c11 HQ3
      go_upto_region 5 with (fail)
      go_cut [6, 7] from 18 to 26 (fun a b V => Hid (RatAt w9 R2 42 a b V))
      case first =>
        go_region_held3 (fun V => Gr w9 V ∧ V.cell? ⟨W.heap.size, 0, none⟩ = some (.bool s) ∧ V.cell? ⟨W.heap.size, 1, none⟩ = some (.slice A l c) ∧ V.cell? ⟨W.heap.size, 2, none⟩ = some (.slice B m e) ∧ V.cell? ⟨w2.heap.size, 0, none⟩ = some (.bool bo) ∧ V.cell? ⟨w2.heap.size, 1, none⟩ = some (.slice Ao no co))
          ((refine (fun G => ⟨G, Gr.cell G d00, Gr.cell G d01, Gr.cell G d02, Gr.cell G d10, Gr.cell G d11⟩) ?_; first
            | exact (Gr.refl w9).drew
            | with_reducible exact GM.out
            | with_reducible exact GA.out
            | with_reducible exact GF.out
            | exact Gr.trans (‹Gr w9 _ ∧ _›).1 (Gr.alloc _ _)
            | exact Gr.trans GM.out (Gr.alloc _ _)
            | exact Below.setCell (Below.setCell (Below.setCell (‹Gr w9 _ ∧ _›).1 (by first | exact Nat.le_refl _ | exact GA.out.size | exact GF.out.size) _) (by first | exact Nat.le_refl _ | exact GA.out.size | exact GF.out.size) _) (by first | exact Nat.le_refl _ | exact GA.out.size | exact GF.out.size) _))
          (first
            | (go_at_call 13; refine (HMK2.out _ f2 _ (HF2.out.gr (by first | exact Gr.refl _ | exact Gr.alloc _ _)) (HO.out.gr (‹Gr w9 _ ∧ _›).1)).mono ?_; rintro e w8 ⟨vr, rfl, hm, hg⟩; obtain ⟨Az, nz, cz, Bz, kz, dz, rfl, hm⟩ := hm.form; obtain ⟨bb, hbb⟩ : ∃ b, b = decide (R2.num < 0) := ⟨_, rfl⟩; rw [← hbb] at hm ⊢; have HVQ := hid hm; have GM := hid ((‹Gr w9 _ ∧ _›).1.trans hg); (first | (have BM : Hid (Blk w8 w7.heap.size #[.bool false, .slice none 0 0, .slice none 0 0] 27) := hid ((Blk.new _ #[.bool false, .slice none 0 0, .slice none 0 0] 27).gr hg); have z0 : w8.cell? ⟨w7.heap.size, 0, none⟩ = some (.bool false) := BM.out.c 0 rfl; have f0 : w8.frozen? ⟨w7.heap.size, 0, none⟩ = false := BM.out.free 0; have z1 : w8.cell? ⟨w7.heap.size, 1, none⟩ = some (.slice none 0 0) := BM.out.c 1 rfl; have f1 : w8.frozen? ⟨w7.heap.size, 1, none⟩ = false := BM.out.free 1; have z2 : w8.cell? ⟨w7.heap.size, 2, none⟩ = some (.slice none 0 0) := BM.out.c 2 rfl; have f2 : w8.frozen? ⟨w7.heap.size, 2, none⟩ = false := BM.out.free 2; have fl : w7.heap.size < w8.heap.size := BM.out.lt) | (have BM := hid (BA.out.gr hg); first | (have z0 : w8.cell? ⟨w6.heap.size, 0, none⟩ = some (.bool false) := BM.out.c 0 rfl; have f0 : w8.frozen? ⟨w6.heap.size, 0, none⟩ = false := BM.out.free 0; have z1 : w8.cell? ⟨w6.heap.size, 1, none⟩ = some (.slice none 0 0) := BM.out.c 1 rfl; have f1 : w8.frozen? ⟨w6.heap.size, 1, none⟩ = false := BM.out.free 1; have z2 : w8.cell? ⟨w6.heap.size, 2, none⟩ = some (.slice none 0 0) := BM.out.c 2 rfl; have f2 : w8.frozen? ⟨w6.heap.size, 2, none⟩ = false := BM.out.free 2; have fl : w6.heap.size < w8.heap.size := BM.out.lt) | (have z0 : w8.cell? ⟨w9.heap.size, 0, none⟩ = some (.bool false) := BM.out.c 0 rfl; have f0 : w8.frozen? ⟨w9.heap.size, 0, none⟩ = false := BM.out.free 0; have z1 : w8.cell? ⟨w9.heap.size, 1, none⟩ = some (.slice none 0 0) := BM.out.c 1 rfl; have f1 : w8.frozen? ⟨w9.heap.size, 1, none⟩ = false := BM.out.free 1; have z2 : w8.cell? ⟨w9.heap.size, 2, none⟩ = some (.slice none 0 0) := BM.out.c 2 rfl; have f2 : w8.frozen? ⟨w9.heap.size, 2, none⟩ = false := BM.out.free 2; have fl : w9.heap.size < w8.heap.size := BM.out.lt))); clear hm hbb hg)
            | (go_at_call 13; refine (HMK2.out _ f2 _ (HF2.out.gr (by first | exact Gr.refl _ | exact Gr.alloc _ _)) (HO.out.gr (‹Gr w9 _ ∧ _›).1)).mono ?_; rintro e w8 ⟨vr, rfl, hm, hg⟩; obtain ⟨Az, nz, cz, Bz, kz, dz, rfl, hm⟩ := hm.form; obtain ⟨bb, hbb⟩ : ∃ b, b = decide (R2.num < 0) := ⟨_, rfl⟩; rw [← hbb] at hm ⊢; have HVQ := hid hm; have GM := hid ((‹Gr w9 _ ∧ _›).1.trans hg); skip; clear hm hbb hg)
            | (go_at_call 30; refine (zadd_c _ f _ q.floor 1 41 (HF.out.gr (by first | exact Gr.refl _ | exact Gr.alloc _ _)) ((HO.out.gr (‹Gr w9 _ ∧ _›).1).le (by decide)) (by decide)).mono ?_; rintro e w7 ⟨f2, rfl, hf, hg⟩; have HF2 := hid hf.az; have GA := hid ((‹Gr w9 _ ∧ _›).1.trans hg); (try (have BA : Hid (Blk w7 w6.heap.size #[.bool false, .slice none 0 0, .slice none 0 0] 27) := hid ((Blk.new _ #[.bool false, .slice none 0 0, .slice none 0 0] 27).gr hg))); (try (have BA := hid (BZ.out.gr hg))); clear hf hg)
            | (go_at_call 29; refine (rfloor_c _ _ q 40 (HQC.out.gr (‹Gr w9 _ ∧ _›).1) (by decide) (by decide)).mono ?_; rintro e w6 ⟨f, rfl, hf, hg⟩; have HF := hid hf.az; have GF := hid ((‹Gr w9 _ ∧ _›).1.trans hg); (try (have BZ : Hid (Blk w6 w9.heap.size #[.bool false, .slice none 0 0, .slice none 0 0] 27) := hid ((Blk.new w9 #[.bool false, .slice none 0 0, .slice none 0 0] 27).gr ((Gr.refl _).drew.trans hg)))); clear hf hg))
        all_goals go_wp2_with fail
        all_goals go_meet
        all_goals first
          | exact rat_at1 GM.out HVQ.out (by first | exact Nat.le_refl _ | exact GA.out.size | exact GF.out.size) rfl
          | exact rat_at2 GM.out HVQ.out BM.out (by first | exact GA.out.size | (have := GA.out.size; simp; omega)) (by first | exact Nat.le_refl _ | exact GA.out.size | exact GF.out.size) (by first | exact BA.out.lt | simp) rfl
      case rest =>
        obtain ⟨g2, s2, A2, l2, c2, B2, m2, e2, rfl, rfl, hb, hv, hg⟩ := hcut.out
        have HGZ := hid (((HG.out.trans HG3.out).trans HGC.out).trans hg)
        have HQZ := hid ((HQC.out.gr hg).le (show 40 ≤ 42 by decide))
        have HLZ := hid ((HLO.out.gr hg).aq.le (show 41 ≤ 42 by decide))
        have HHZ := hid hv.aq
        have p0 : wc.cell? ⟨g1, 0, none⟩ = some (.bool s1) := (HBL.out.gr hg).c 0 rfl
        have p1 : wc.cell? ⟨g1, 1, none⟩ = some (.slice A1 l1 c1) := (HBL.out.gr hg).c 1 rfl
        have p2 : wc.cell? ⟨g1, 2, none⟩ = some (.slice B1 m1 e1) := (HBL.out.gr hg).c 2 rfl
        have q0 : wc.cell? ⟨g2, 0, none⟩ = some (.bool s2) := hb.c 0 rfl
        have q1 : wc.cell? ⟨g2, 1, none⟩ = some (.slice A2 l2 c2) := hb.c 1 rfl
        have q2 : wc.cell? ⟨g2, 2, none⟩ = some (.slice B2 m2 e2) := hb.c 2 rfl
        have e00 : wc.cell? ⟨W.heap.size, 0, none⟩ = some (.bool s) := Gr.cell hg d00
        have e01 : wc.cell? ⟨W.heap.size, 1, none⟩ = some (.slice A l c) := Gr.cell hg d01
        have e02 : wc.cell? ⟨W.heap.size, 2, none⟩ = some (.slice B m e) := Gr.cell hg d02
        clear hcut hb hv hg d00 d01 d02 d10 d11
        go_wp2_with fail
        refine (HC1.out wc _ _ HLZ.out HQZ.out).mono ?_
        rintro e w10 ⟨rfl, hg10⟩
        have hk1 := HK1.out
        have f0 := Gr.cell hg10 q0
        have f1 := Gr.cell hg10 q1
        have f2 := Gr.cell hg10 q2
        have f3 := Gr.cell hg10 e00
        have f4 := Gr.cell hg10 e01
        have f5 := Gr.cell hg10 e02
        have HG10 := hid hg10
        clear hg10 p0 p1 p2 q0 q1 q2 e00 e01 e02
        go_wp2_with fail
        refine (HC2.out w10 _ _ (HQZ.out.gr HG10.out) (HHZ.out.gr HG10.out)).mono ?_
        rintro e w11 ⟨rfl, hg11⟩
        have hk2 := HK2.out
        have HG11 := hid ((HGZ.out.trans HG10.out).trans hg11)
        clear hg11
        go_wp2
        go_ret
        exact ⟨rfl, HG11.out⟩
end Go.Proofs.Ytkbgdiejjabdmaa
