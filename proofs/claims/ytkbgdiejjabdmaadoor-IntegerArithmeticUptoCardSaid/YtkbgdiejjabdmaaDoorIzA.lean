/- The walks of integer.Norm, Int64 and Print. -/
import Derived.Test.YtkbgdiejjabdmaaDoorIntB
import Derived.Test.YtkbgdiejjabdmaaDoorNatM
import Derived.Test.YtkbgdiejjabdmaaDoorPrA
namespace Go.Proofs.YtkbgdiejjabdmaaDoor
open Go.RowKit

set_option maxHeartbeats 4000000 in
theorem znorm_c (w : World) (v1 : Value) (x : Int) (L : Nat) (h1 : AZ w v1 x L) (hL : L ≤ 274877906944) :
    Calls Tryd.prog 58 #[v1] w (Ret w fun v w' => VZ w' w.heap.size v x L) := by
  obtain ⟨neg1, m1, n1, rfl, hm1, hx⟩ := h1
  obtain ⟨z, hzz⟩ : ∃ z, z = x := ⟨_, rfl⟩
  have hz : sgnd neg1 n1 = z := by rw [hzz, hx]; rfl
  rw [← hzz]
  have HMK : Hid (∀ (w1 : World) (v : Value), AN w1 v n1 L → Calls Tryd.prog 63 #[.bool neg1, v] w1 (Ret w1 fun v w' => VZ w' w1.heap.size v z L)) := by
    intro w1 v h
    have h2 := make_c w1 neg1 v n1 L h (by omega)
    rw [hz] at h2
    exact h2
  clear hz hx hzz
  go_enter Tryd.func58, Tryd.ntmps58
  go_wp2_with fail
  obtain ⟨W, hW⟩ : ∃ W, W = (w.alloc (.cells #[.bool neg1, m1] 51)).alloc (.cells #[.bool false, .slice none 0 0] 51) := ⟨_, rfl⟩
  obtain ⟨hg, b0, b1⟩ := al2 w #[.bool neg1, m1] #[.bool false, .slice none 0 0] 51 51
  rw [← hW] at hg b0 b1 ⊢
  clear hW
  have H1 := hid (hm1.gr hg)
  have c00 : W.cell? ⟨w.heap.size, 0, none⟩ = some (.bool neg1) := b0.c 0 rfl
  have c01 : W.cell? ⟨w.heap.size, 1, none⟩ = some (m1) := b0.c 1 rfl
  have HB0 := hid b1
  have HG := hid hg
  have HS : Hid (w.heap.size < W.heap.size) := by have h := b1.lt; unfold Hid; omega
  clear hm1 hg b0 b1
  refine (HMK.out W m1 H1.out).mono ?_
  rintro e w2 ⟨v2, rfl, hm, hg2⟩
  obtain ⟨A, n, c, rfl, hm⟩ := hm.form
  have HV2 := hid hm
  have HG2 := hid hg2
  have rc00 := (HB0.out.gr HG2.out).c 0 rfl
  have rf00 := (HB0.out.gr HG2.out).free 0
  have rc01 := (HB0.out.gr HG2.out).c 1 rfl
  have rf01 := (HB0.out.gr HG2.out).free 1
  have rl0 := (HB0.out.gr HG2.out).lt
  clear hm hg2
  go_wp2
  refine int_end rfl rfl rfl (HB0.out.gr HG2.out) ?_
  intro V hV
  have := HS.out
  have a1 := HV2.out.exb hV HB0.out.lt
  have a2 := HB0.out.lt
  have a3 := (HG.out.trans HG2.out).ex hV (by omega)
  have a4 := a1.base (b' := w.heap.size) (by omega)
  exact ⟨_, rfl, a4, a3⟩

/-- What Int64 gives, and whether it is one. -/
def i64B (z : Int) : Bool := decide (-9223372036854775808 ≤ z ∧ z ≤ 9223372036854775807)
def i64N (z : Int) : Int := if -9223372036854775808 ≤ z ∧ z ≤ 9223372036854775807 then z else 0

set_option maxHeartbeats 4000000 in
theorem zint64_c (w : World) (v1 : Value) (z : Int) (L : Nat) (h1 : AZ w v1 z L) (hL : L ≤ 274877906944) :
    Calls Tryd.prog 56 #[v1] w (Is w (.tuple #[.int .i64 (i64N z), .bool (i64B z)])) := by
  obtain ⟨neg, m, n, rfl, hm, hx⟩ := h1
  change z = sgnd neg n at hx
  obtain ⟨I, hI⟩ : ∃ i, i = i64N z := ⟨_, rfl⟩
  obtain ⟨B, hB⟩ : ∃ b, b = i64B z := ⟨_, rfl⟩
  rw [← hI, ← hB]
  obtain ⟨hgl, bl⟩ := al1 w #[.bool neg, m] 51
  obtain ⟨W, hW⟩ : ∃ V, V = w.alloc (.cells #[.bool neg, m] 51) := ⟨_, rfl⟩
  rw [← hW] at hgl bl
  have HM := hid (hm.gr hgl)
  have HW := hid hW
  have HG := hid hgl
  have HB := hid bl
  obtain ⟨u, hu⟩ : ∃ u, u = uN n := ⟨_, rfl⟩
  obtain ⟨ok, hok⟩ : ∃ o, o = uB n := ⟨_, rfl⟩
  have HU : Hid (Calls Tryd.prog 21 #[m] W (Is W (.tuple #[.int .u64 u, .bool ok]))) := by
    rw [hu, hok]; exact uint_c W m n L HM.out (by omega)
  have HI := hid hI
  have HBB := hid hB
  have HX := hid hx
  have HU2 := hid hu
  have HO2 := hid hok
  clear hm hx hI hB hgl bl hW hu hok hL
  by_cases h64 : n < 18446744073709551616
  · have hu : u = (n : Int) := by rw [HU2.out]; unfold uN; rw [if_pos h64]
    have hok : ok = true := by rw [HO2.out]; exact decide_eq_true h64
    subst hok
    have hu0 : 0 ≤ u := by omega
    have hu1 : u ≤ 18446744073709551615 := by omega
    by_cases hbig : 9223372036854775808 < n
    · have hb : 9223372036854775808 < u := by omega
      have hz : ¬ (-9223372036854775808 ≤ z ∧ z ≤ 9223372036854775807) := by
        rw [HX.out]; unfold sgnd; cases neg <;> simp <;> omega
      have hI0 : I = 0 := by rw [HI.out]; exact if_neg hz
      have hB0 : B = false := by rw [HBB.out]; exact decide_eq_false hz
      have HI0 := hid hI0
      have HB0 := hid hB0
      clear hz hI0 hB0 hu h64 hbig
      go_enter Tryd.func56, Tryd.ntmps56
      go_wp2_with fail
      rw [← HW.out]
      refine HU.out.mono ?_
      rintro e w1 ⟨rfl, hg⟩
      have HG1 := hid (HG.out.trans hg)
      have c0 : w1.cell? ⟨w.heap.size, 0, none⟩ = some (.bool neg) := (HB.out.gr hg).c 0 rfl
      clear hg
      go_wp2
      go_ret2
      exact ⟨by rw [HI0.out, HB0.out]; rfl, HG1.out⟩
    · by_cases heq : n = 9223372036854775808
      · have hb : u = 9223372036854775808 := by omega
        subst hb
        cases neg with
        | false =>
          have hz : ¬ (-9223372036854775808 ≤ z ∧ z ≤ 9223372036854775807) := by
            rw [HX.out]; unfold sgnd; simp; omega
          have hI0 : I = 0 := by rw [HI.out]; exact if_neg hz
          have hB0 : B = false := by rw [HBB.out]; exact decide_eq_false hz
          have HI0 := hid hI0
          have HB0 := hid hB0
          clear hz hI0 hB0 hu h64 hbig heq hu0 hu1
          go_enter Tryd.func56, Tryd.ntmps56
          go_wp2_with fail
          rw [← HW.out]
          refine HU.out.mono ?_
          rintro e w1 ⟨rfl, hg⟩
          have HG1 := hid (HG.out.trans hg)
          have c0 : w1.cell? ⟨w.heap.size, 0, none⟩ = some (.bool false) := (HB.out.gr hg).c 0 rfl
          clear hg
          go_wp2
          go_ret2
          exact ⟨by rw [HI0.out, HB0.out]; rfl, HG1.out⟩
        | true =>
          have hz : z = -9223372036854775808 := by rw [HX.out]; unfold sgnd; simp; omega
          have hI0 : I = -9223372036854775808 := by rw [HI.out, hz]; rfl
          have hB0 : B = true := by rw [HBB.out, hz]; rfl
          have HI0 := hid hI0
          have HB0 := hid hB0
          clear hz hI0 hB0 hu h64 hbig heq hu0 hu1
          go_enter Tryd.func56, Tryd.ntmps56
          go_wp2_with fail
          rw [← HW.out]
          refine HU.out.mono ?_
          rintro e w1 ⟨rfl, hg⟩
          have HG1 := hid (HG.out.trans hg)
          have c0 : w1.cell? ⟨w.heap.size, 0, none⟩ = some (.bool true) := (HB.out.gr hg).c 0 rfl
          have hww : IntKind.i64.wrap 9223372036854775808 = -9223372036854775808 := by rfl
          clear hg
          go_wp2
          go_ret2
          exact ⟨by rw [HI0.out, HB0.out]; rfl, HG1.out⟩
      · have hb : u < 9223372036854775808 := by omega
        have hb1 : ¬ 9223372036854775808 < u := by omega
        have hb2 : (u == 9223372036854775808) = false := by rw [beq_eq_false_iff_ne]; omega
        have hw1 : IntKind.i64.wrap u = u := IntWalk.i64_in _ (by omega)
        have hw2 : IntKind.i64.wrap (-u) = -u := IntWalk.i64_in _ (by omega)
        have hz : z = if neg then -u else u := by rw [HX.out, hu]; unfold sgnd; rfl
        have hr : -9223372036854775808 ≤ z ∧ z ≤ 9223372036854775807 := by rw [hz]; cases neg <;> simp <;> omega
        have hI0 : I = if neg then -u else u := by rw [HI.out, ← hz]; exact if_pos hr
        have hB0 : B = true := by rw [HBB.out]; exact decide_eq_true hr
        have HI0 := hid hI0
        have HB0 := hid hB0
        clear hz hI0 hB0 hu h64 hbig heq hr
        cases neg
        all_goals
          go_enter Tryd.func56, Tryd.ntmps56
          go_wp2_with fail
          rw [← HW.out]
          refine HU.out.mono ?_
          rintro e w1 ⟨rfl, hg⟩
          have HG1 := hid (HG.out.trans hg)
          have c0 := (HB.out.gr hg).c 0 rfl
          clear hg
          go_wp2
          go_ret2
          exact ⟨by rw [HI0.out, HB0.out]; rfl, HG1.out⟩
  · have hu : u = 0 := by rw [HU2.out]; unfold uN; rw [if_neg h64]
    have hok : ok = false := by rw [HO2.out]; exact decide_eq_false h64
    subst hok
    subst hu
    have hz : ¬ (-9223372036854775808 ≤ z ∧ z ≤ 9223372036854775807) := by
      rw [HX.out]; unfold sgnd; cases neg <;> simp <;> omega
    have hI0 : I = 0 := by rw [HI.out]; exact if_neg hz
    have hB0 : B = false := by rw [HBB.out]; exact decide_eq_false hz
    have HI0 := hid hI0
    have HB0 := hid hB0
    clear hz hI0 hB0 h64
    go_enter Tryd.func56, Tryd.ntmps56
    go_wp2_with fail
    rw [← HW.out]
    refine HU.out.mono ?_
    rintro e w1 ⟨rfl, hg⟩
    have HG1 := hid (HG.out.trans hg)
    have c0 : w1.cell? ⟨w.heap.size, 0, none⟩ = some (.bool neg) := (HB.out.gr hg).c 0 rfl
    clear hg
    go_wp2
    go_ret2
    exact ⟨by rw [HI0.out, HB0.out]; rfl, HG1.out⟩

theorem str45 {S : ByteArray} {D : List UInt8} (h : S = ⟨D.toArray⟩) : (⟨#[45]⟩ : ByteArray) ++ (⟨#[]⟩ : ByteArray) ++ S = ⟨(45 :: D).toArray⟩ := by
  subst h
  apply ByteArray.ext
  rw [ByteArray.data_append, ByteArray.data_append]
  apply Array.ext'
  simp
theorem itoa_neg' {z : Int} (h : z < 0) : Lib.itoa z = 45 :: Lib.decDigits z.natAbs := by unfold Lib.itoa; rw [if_pos h]
theorem itoa_pos' {z : Int} (h : ¬ z < 0) : Lib.itoa z = Lib.decDigits z.natAbs := by
  unfold Lib.itoa; rw [if_neg h]
  congr 1; omega

set_option maxHeartbeats 4000000 in
theorem zprint_c (w : World) (v1 : Value) (z : Int) (L : Nat) (h1 : AZ w v1 z L) (hL : L ≤ 274877906944) (ht : Tab w) :
    Calls Tryd.prog 53 #[v1] w (Is w (.string ⟨(Lib.itoa z).toArray⟩)) := by
  have HA := hid h1
  obtain ⟨neg, m, n, rfl, hm, hx⟩ := h1
  change z = sgnd neg n at hx
  have hzn : z.natAbs = n := by rw [hx]; unfold sgnd; cases neg <;> simp
  obtain ⟨W, hW⟩ : ∃ V, V = w.alloc (.cells #[.bool neg, m] 51) := ⟨_, rfl⟩
  obtain ⟨hgl, bl⟩ := al1 w #[.bool neg, m] 51
  rw [← hW] at hgl bl
  have HM := hid (hm.gr hgl)
  have HZ := hid (HA.out.gr hgl)
  have HT := hid (ht.gr hgl)
  have HW := hid hW
  have HG := hid hgl
  have HB := hid bl
  have c0 : W.cell? ⟨w.heap.size, 0, none⟩ = some (.bool neg) := bl.c 0 rfl
  have c1 : W.cell? ⟨w.heap.size, 1, none⟩ = some m := bl.c 1 rfl
  have HSG : Hid (Calls Tryd.prog 60 #[.agg #[.bool neg, m]] W (Is W (.int .i64 z.sign))) := sign_c W _ z L HZ.out (by omega)
  obtain ⟨D, hD⟩ : ∃ D, D = Lib.decDigits n := ⟨_, rfl⟩
  have HPR : Hid (∀ V : World, Gr W V → Calls Tryd.prog 47 #[m] V (Is V (.string ⟨D.toArray⟩))) := fun V hV => by
    rw [hD]; exact print_c V m n L (HM.out.gr hV) (by omega) (HT.out.gr hV)
  obtain ⟨S, hS⟩ : ∃ S : ByteArray, S = ⟨D.toArray⟩ := ⟨_, rfl⟩
  have hln : (limbs n).length ≤ L := by
    obtain ⟨A, c, xs, _, hr, hv, hl⟩ := hm
    rw [← hv]
    exact Nat.le_trans (limbs_val_le hr.lim) hl
  have hsz : S.size ≤ 10 * L + 1 := by
    rw [hS]
    show D.toArray.size ≤ _
    rw [List.size_toArray, hD]
    exact dec_bound hln n (Nat.le_refl _)
  have h45 : ByteArray.size ⟨#[45]⟩ = 1 := rfl
  have hif : ¬ (9223372036854775807 < ByteArray.size ⟨#[45]⟩ + S.size) := by rw [h45]; omega
  have HIF := hid hif
  have HD := hid hD
  have HSS := hid hS
  rw [← hS] at HPR
  have HZN := hid hzn
  obtain ⟨sg, hsg⟩ : ∃ s, s = z.sign := ⟨_, rfl⟩
  rw [← hsg] at HSG
  have HSI := hid hsg
  clear hm hx hgl bl hW hD hS hzn hsg ht HA hln hsz h45 hif
  by_cases hz : z < 0
  · have hs : sg < 0 := by rw [HSI.out, Int.sign_eq_neg_one_of_neg hz]; decide
    have HR : Hid (Lib.itoa z = 45 :: D) := by unfold Hid; rw [itoa_neg' hz, HZN.out, HD.out]
    clear hz
    go_enter Tryd.func53, Tryd.ntmps53
    go_wp2_with fail
    rw [← HW.out]
    refine HSG.out.mono ?_
    rintro e w1 ⟨rfl, hg⟩
    have HG1 := hid hg
    have d1 : w1.cell? ⟨w.heap.size, 1, none⟩ = some m := Gr.cell hg c1
    clear hg c0 c1
    go_wp2_with fail
    refine (HPR.out w1 HG1.out).mono ?_
    rintro e w2 ⟨rfl, hg⟩
    have HG2 := hid (HG1.out.trans hg)
    have hif := HIF.out
    have hadd : ∀ V : World, (Op.stringOp .add ⟨#[45]⟩ S).run Tryd.prog V = .ok (.string (⟨#[45]⟩ ++ S)) V := fun V => run_string_add_sum V _ _ (by omega)
    clear hg
    go_wp2
    go_ret
    exact ⟨by rw [HR.out]; exact congrArg (fun s => Ending.returned (.string s)) (str45 HSS.out), HG.out.trans HG2.out⟩
  · have hs : ¬ sg < 0 := by
      rw [HSI.out]
      rcases (show z = 0 ∨ 0 < z by omega) with h | h
      · rw [h]; decide
      · rw [Int.sign_eq_one_of_pos h]; decide
    have HR : Hid (Lib.itoa z = D) := by unfold Hid; rw [itoa_pos' hz, HZN.out, HD.out]
    clear hz
    go_enter Tryd.func53, Tryd.ntmps53
    go_wp2_with fail
    rw [← HW.out]
    refine HSG.out.mono ?_
    rintro e w1 ⟨rfl, hg⟩
    have HG1 := hid hg
    have d1 : w1.cell? ⟨w.heap.size, 1, none⟩ = some m := Gr.cell hg c1
    clear hg c0 c1
    go_wp2_with fail
    refine (HPR.out w1 HG1.out).mono ?_
    rintro e w2 ⟨rfl, hg⟩
    have HG2 := hid (HG1.out.trans hg)
    clear hg
    go_wp2
    go_ret
    exact ⟨by rw [HR.out, ← HSS.out]; rfl, HG.out.trans HG2.out⟩
end Go.Proofs.YtkbgdiejjabdmaaDoor
