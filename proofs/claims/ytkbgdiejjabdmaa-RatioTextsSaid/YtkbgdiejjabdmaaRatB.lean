/- The walks of ratio.parts, Make, Of, Norm, as rational numbers. -/
import Derived.Test.YtkbgdiejjabdmaaRatA
namespace Go.Proofs.Ytkbgdiejjabdmaa
open Go.RowKit

/-- What parts returns: a numerator and a denominator above 0. -/
def PartsR (q : Rat) (L : Nat) (u v : Value) (w' : World) : Prop := ∃ neg A l c neg2 A2 l2 c2, u = .agg #[.bool neg, .slice A l c] ∧ v = .agg #[.bool neg2, .slice A2 l2 c2] ∧ ∃ z k n, 0 < k ∧ q = mkRat z k ∧ z = sgnd neg n ∧ AN w' (.slice A l c) n L ∧ AN w' (.slice A2 l2 c2) k L ∧ AZ w' (.agg #[.bool neg2, .slice A2 l2 c2]) (k : Int) L
theorem VZ.an_nat {w : World} {b : Nat} {x m : Value} {k L : Nat} (h : VZ w b (.agg #[x, m]) (k : Int) L) : AN w m k L := by
  obtain ⟨m', he, h3⟩ := h
  injection he with he
  have e2 : m = m' := by have := congrArg (·[1]?) he; simpa using this
  subst e2
  exact h3.an

set_option maxHeartbeats 4000000 in
theorem parts_c (w : World) (v1 : Value) (q : Rat) (L : Nat) (h1 : AQ w v1 q L) (hL1 : 1 ≤ L) (hL : L ≤ 274877906944) :
    Calls Try.prog 47 #[v1] w (RetV w (PartsR q L)) := by
  obtain ⟨neg, m, d, n, k, rfl, hm1, hd1, hq⟩ := h1
  obtain ⟨A1, l1, c1, rfl, hm1⟩ := hm1.form
  obtain ⟨A2, l2, c2, rfl, hd1⟩ := hd1.form
  change q = mkRat (sgnd neg n) k at hq
  have HBD : Hid (∀ V : World, AN V (.slice A2 l2 c2) k L → Calls Try.prog 39 #[.slice A2 l2 c2] V (Is V (.int .i64 (bitsN k)))) := fun V h => bits_c V _ k L h (by omega)
  obtain ⟨bk, hbk⟩ : ∃ b : Int, b = bitsN k := ⟨_, rfl⟩
  rw [← hbk] at HBD
  have HQ := hid hq
  by_cases hk : k = 0
  · have hb : bk = 0 := by rw [hbk, hk]; rfl
    have HK := hid hk
    subst hb
    have HOF : Hid (∀ V : World, Calls Try.prog 61 #[.int .u64 1] V (Ret V fun v w' => VN w' V.heap.size v 1 2)) := fun V => of_c V 1 (by decide) (by decide)
    have HWH : Hid (∀ (V : World) (v : Value), AN V v 1 L → Calls Try.prog 81 #[v] V (Ret V fun v w' => VZ w' V.heap.size v ((1 : Nat) : Int) L)) := fun V v a => whole_c V v 1 L a hL
    clear hq hbk hk
    go_enter Try.func47, Try.ntmps47
    go_wp2_with fail
    obtain ⟨W, hW⟩ : ∃ W, W = ((w.alloc (.cells #[.bool neg, .slice A1 l1 c1, .slice A2 l2 c2] 27)).alloc (.cells #[.bool false, .slice none 0 0] 25)).alloc (.cells #[.bool false, .slice none 0 0] 25) := ⟨_, rfl⟩
    obtain ⟨hg, b0, b1, b2⟩ := al3 w #[.bool neg, .slice A1 l1 c1, .slice A2 l2 c2] #[.bool false, .slice none 0 0] #[.bool false, .slice none 0 0] 27 25 25
    rw [← hW] at hg b0 b1 b2 ⊢
    clear hW
    have H1 := hid (hm1.gr hg)
    have H2 := hid (hd1.gr hg)
    have c00 : W.cell? ⟨w.heap.size, 0, none⟩ = some (.bool neg) := b0.c 0 rfl
    have c01 : W.cell? ⟨w.heap.size, 1, none⟩ = some (.slice A1 l1 c1) := b0.c 1 rfl
    have c02 : W.cell? ⟨w.heap.size, 2, none⟩ = some (.slice A2 l2 c2) := b0.c 2 rfl
    have HB0 := hid b1
    have HB1 := hid b2
    have HG := hid hg
    have HS : Hid (w.heap.size < W.heap.size) := by have h := b2.lt; unfold Hid; omega
    clear hm1 hd1 hg b0 b1 b2
    refine (HBD.out W H2.out).mono ?_
    rintro e w1 ⟨rfl, hg1⟩
    have HG1 := hid hg1
    have d00 := Gr.cell HG1.out c00
    have d01 := Gr.cell HG1.out c01
    have d02 := Gr.cell HG1.out c02
    clear hg1
    go_wp2_with fail
    refine (HOF.out w1).mono ?_
    rintro e w2 ⟨v2, rfl, hv2, hg2⟩
    have HV2 := hid (VN.one hv2 hL1)
    have HG2 := hid (HG1.out.trans hg2)
    clear hv2 hg2
    go_wp2_with fail
    refine (HWH.out w2 v2 HV2.out.an).mono ?_
    rintro e w3 ⟨v3, rfl, hm, hg3⟩
    obtain ⟨A, n', c, rfl, hm⟩ := hm.form
    obtain ⟨bb, hbb⟩ : ∃ b, b = decide (((1 : Nat) : Int) < 0) := ⟨_, rfl⟩
    rw [← hbb] at hm ⊢
    have HV3 := hid (hm.base (b' := W.heap.size) HG2.out.size)
    have HG3 := hid (HG2.out.trans hg3)
    have rc00 := (HB0.out.gr HG3.out).c 0 rfl
    have rf00 := (HB0.out.gr HG3.out).free 0
    have rc01 := (HB0.out.gr HG3.out).c 1 rfl
    have rf01 := (HB0.out.gr HG3.out).free 1
    have rl0 := (HB0.out.gr HG3.out).lt
    have rc10 := (HB1.out.gr HG3.out).c 0 rfl
    have rf10 := (HB1.out.gr HG3.out).free 0
    have rc11 := (HB1.out.gr HG3.out).c 1 rfl
    have rf11 := (HB1.out.gr HG3.out).free 1
    have rl1 := (HB1.out.gr HG3.out).lt
    clear hm hg3 hbb
    go_wp2
    refine int2_end rfl rfl rfl rfl (HB0.out.gr HG3.out) (HB1.out.gr HG3.out) (by omega) ?_
    intro V1 V hV1 hV
    have l0 := HB0.out.lt
    have l1 := HB1.out.lt
    have a3 := ((HG.out.trans HG3.out).ex hV1 (by omega)).ex hV (by omega)
    have q2 := (HV3.out.exb hV1 l0).exb hV l1
    refine ⟨_, _, rfl, ⟨false, none, 0, 0, _, _, _, _, rfl, rfl, 0, 1, 0, by decide, ?_, rfl, (VN.zero V 0 none 0 L).an, q2.an_nat, q2.az⟩, a3⟩
    rw [HQ.out, HK.out, Rat.mkRat_zero, Rat.zero_mkRat]
  · have hb : (bk == 0) = false := by rw [beq_eq_false_iff_ne, hbk]; have := bitsN_pos hk; omega
    have HK : Hid (0 < k) := by unfold Hid; omega
    have HWH : Hid (∀ V : World, AN V (.slice A2 l2 c2) k L → Calls Try.prog 81 #[.slice A2 l2 c2] V (Ret V fun v w' => VZ w' V.heap.size v (k : Int) L)) := fun V a => whole_c V _ k L a hL
    clear hq hbk hk
    have HM0 := hid hm1
    go_enter Try.func47, Try.ntmps47
    go_wp2_with fail
    obtain ⟨W, hW⟩ : ∃ W, W = ((w.alloc (.cells #[.bool neg, .slice A1 l1 c1, .slice A2 l2 c2] 27)).alloc (.cells #[.bool false, .slice none 0 0] 25)).alloc (.cells #[.bool false, .slice none 0 0] 25) := ⟨_, rfl⟩
    obtain ⟨hg, b0, b1, b2⟩ := al3 w #[.bool neg, .slice A1 l1 c1, .slice A2 l2 c2] #[.bool false, .slice none 0 0] #[.bool false, .slice none 0 0] 27 25 25
    rw [← hW] at hg b0 b1 b2 ⊢
    clear hW
    have H1 := hid (hm1.gr hg)
    have H2 := hid (hd1.gr hg)
    have c00 : W.cell? ⟨w.heap.size, 0, none⟩ = some (.bool neg) := b0.c 0 rfl
    have c01 : W.cell? ⟨w.heap.size, 1, none⟩ = some (.slice A1 l1 c1) := b0.c 1 rfl
    have c02 : W.cell? ⟨w.heap.size, 2, none⟩ = some (.slice A2 l2 c2) := b0.c 2 rfl
    have HB0 := hid b1
    have HB1 := hid b2
    have HG := hid hg
    have HS : Hid (w.heap.size < W.heap.size) := by have h := b2.lt; unfold Hid; omega
    clear hm1 hd1 hg b0 b1 b2
    refine (HBD.out W H2.out).mono ?_
    rintro e w1 ⟨rfl, hg1⟩
    have HG1 := hid hg1
    have d00 := Gr.cell HG1.out c00
    have d01 := Gr.cell HG1.out c01
    have d02 := Gr.cell HG1.out c02
    clear hg1
    go_wp2
    go_region_held3 (fun V => V.cell? ⟨w.heap.size, 0, none⟩ = some (.bool neg) ∧ V.cell? ⟨w.heap.size, 1, none⟩ = some (.slice A1 l1 c1) ∧ V.cell? ⟨w.heap.size, 2, none⟩ = some (.slice A2 l2 c2))
      (first
        | exact ⟨d00, d01, d02⟩
        | with_reducible exact ⟨Gr.cell HG2.out d00, Gr.cell HG2.out d01, Gr.cell HG2.out d02⟩
        | with_reducible exact ⟨set2 (by dsimp only; omega) (Gr.cell HG2.out d00), set2 (by dsimp only; omega) (Gr.cell HG2.out d01), set2 (by dsimp only; omega) (Gr.cell HG2.out d02)⟩
        | with_reducible exact ⟨set2 (by dsimp only; omega) (set2 (by dsimp only; omega) (Gr.cell HG2.out d00)), set2 (by dsimp only; omega) (set2 (by dsimp only; omega) (Gr.cell HG2.out d01)), set2 (by dsimp only; omega) (set2 (by dsimp only; omega) (Gr.cell HG2.out d02))⟩)
      (first
        | (go_at_call 81; refine (HWH.out _ ((H2.out.gr HG1.out).gr ((Gr.refl w1).drew))).mono ?_; rintro e w2 ⟨v2, rfl, hm, hg2⟩; obtain ⟨A, n', c, rfl, hm⟩ := hm.form; obtain ⟨bb, hbb⟩ : ∃ b, b = decide ((k : Int) < 0) := ⟨_, rfl⟩; rw [← hbb] at hm ⊢; have HV3 := hid (hm.base (b' := W.heap.size) HG1.out.size); have HG2 := hid (((Gr.refl w1).drew).trans hg2); have HG3 := hid (HG1.out.trans HG2.out); have rc00 := (HB0.out.gr HG3.out).c 0 rfl; have rf00 := (HB0.out.gr HG3.out).free 0; have rc01 := (HB0.out.gr HG3.out).c 1 rfl; have rf01 := (HB0.out.gr HG3.out).free 1; have rl0 := (HB0.out.gr HG3.out).lt; have rc10 := (HB1.out.gr HG3.out).c 0 rfl; have rf10 := (HB1.out.gr HG3.out).free 0; have rc11 := (HB1.out.gr HG3.out).c 1 rfl; have rf11 := (HB1.out.gr HG3.out).free 1; have rl1 := (HB1.out.gr HG3.out).lt; clear hm hg2 hbb))
    go_wp2
    refine int2_end rfl rfl rfl rfl (HB0.out.gr HG3.out) (HB1.out.gr HG3.out) (by omega) ?_
    intro V1 V hV1 hV
    have l0 := HB0.out.lt
    have l1 := HB1.out.lt
    have a3 := ((HG.out.trans HG3.out).ex hV1 (by omega)).ex hV (by omega)
    have q2 := (HV3.out.exb hV1 l0).exb hV l1
    have q1 := HM0.out.gr a3
    exact ⟨_, _, rfl, ⟨neg, _, _, _, _, _, _, _, rfl, rfl, _, k, n, HK.out, HQ.out, rfl, q1, q2.an_nat, q2.az⟩, a3⟩
end Go.Proofs.Ytkbgdiejjabdmaa
