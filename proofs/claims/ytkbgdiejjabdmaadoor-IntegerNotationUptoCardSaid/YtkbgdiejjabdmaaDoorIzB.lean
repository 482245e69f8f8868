/- The walks of the reference's Int64 and Print of integers. -/
import Derived.Test.YtkbgdiejjabdmaaDoorRgA
import Derived.Test.YtkbgdiejjabdmaaDoorRfG
import Derived.Test.YtkbgdiejjabdmaaDoorIzA
import Derived.Test.YtkbgdiejjabdmaaDoorPrB
import Derived.Deep.Cut
namespace Go.Proofs.YtkbgdiejjabdmaaDoor
open Go.RowKit

theorem VZ.mag {w : World} {b : Nat} {x m : Value} {z : Int} {L : Nat} (h : VZ w b (.agg #[x, m]) z L) : VN w b m z.natAbs L := by
  obtain ⟨m', he, h3⟩ := h
  injection he with he
  have e2 : m = m' := by have := congrArg (·[1]?) he; simpa using this
  subst e2
  exact h3

set_option maxHeartbeats 4000000 in
theorem xzint64_c (w : World) (v1 : Value) (z : Int) (L : Nat) (h1 : AZ w v1 z L) (hL : L ≤ 137438953472) :
    Calls Tryd.prog 59 #[v1] w (Is w (.tuple #[.int .i64 (i64N z), .bool (i64B z)])) := by
  have HA := hid h1
  obtain ⟨neg, m, n, rfl, hm, hx⟩ := h1
  clear hm hx n
  have HNM : Hid (∀ V : World, Gr w V → Calls Tryd.prog 65 #[.agg #[.bool neg, m]] V (Ret V fun v w' => VZ w' V.heap.size v z L)) := fun V hV => xznorm_c V _ z L (HA.out.gr hV) (by omega)
  have HL := hid hL
  obtain ⟨I, hI⟩ : ∃ i, i = i64N z := ⟨_, rfl⟩
  obtain ⟨B, hB⟩ : ∃ b, b = i64B z := ⟨_, rfl⟩
  rw [← hI, ← hB]
  have HI := hid hI
  have HBB := hid hB
  clear hI hB
  clear hL
  go_enter Tryd.func59, Tryd.ntmps59
  go_wp2_with fail
  refine (HNM.out _ (Gr.alloc _ _)).mono ?_
  rintro e w1 ⟨v, rfl, hv, hg1⟩
  obtain ⟨A, l, c, rfl, hv⟩ := hv.form
  obtain ⟨s, hs⟩ : ∃ s, s = decide (z < 0) := ⟨_, rfl⟩
  rw [← hs] at hv ⊢
  have HSI := hid hs
  clear hs
  have HVN := hid hv.mag
  have HG1 := hid ((Gr.alloc w _).trans hg1)
  obtain ⟨W1, hW1⟩ : ∃ V, V = w1.alloc (.cells #[.bool s, .slice A l c] 51) := ⟨_, rfl⟩
  go_upto_region 2 with (fail)
  obtain ⟨hgl, bl⟩ := al1 w1 #[.bool s, .slice A l c] 51
  rw [← hW1] at hgl bl ⊢
  have HV1 := hid (HVN.out.gr hgl)
  have HB1 := hid bl
  have HG2 := hid (HG1.out.trans hgl)
  have c0 : W1.cell? ⟨w1.heap.size, 0, none⟩ = some (.bool s) := bl.c 0 rfl
  have c1 : W1.cell? ⟨w1.heap.size, 1, none⟩ = some (.slice A l c) := bl.c 1 rfl
  clear hv hg1 hgl bl hW1
  obtain ⟨n, hn⟩ : ∃ n, n = z.natAbs := ⟨_, rfl⟩
  rw [← hn] at HV1
  have HN := hid hn
  clear hn
  obtain ⟨u, hu⟩ : ∃ u, u = uN n := ⟨_, rfl⟩
  obtain ⟨ok, hok⟩ : ∃ o, o = uB n := ⟨_, rfl⟩
  have HU : Hid (Calls Tryd.prog 22 #[.slice A l c] W1 (Is W1 (.tuple #[.int .u64 u, .bool ok]))) := by
    rw [hu, hok]; exact xuint_c W1 _ n L HV1.out.an (by have := HL.out; omega)
  have HU2 := hid hu
  have HO2 := hid hok
  clear hu hok
  go_wp2_with fail
  refine HU.out.mono ?_
  rintro e w2 ⟨rfl, hg⟩
  have HG3 := hid (HG2.out.trans hg)
  have d0 : w2.cell? ⟨w1.heap.size, 0, none⟩ = some (.bool s) := Gr.cell hg c0
  clear hg c0 c1
  by_cases h64 : n < 18446744073709551616
  · have hu : u = (n : Int) := by rw [HU2.out]; unfold uN; rw [if_pos h64]
    have hok : ok = true := by rw [HO2.out]; exact decide_eq_true h64
    subst hok
    have hu0 : 0 ≤ u := by omega
    have hu1 : u ≤ 18446744073709551615 := by omega
    cases s with
    | true =>
      have hz : z < 0 := by have := HSI.out; simpa using this.symm
      have hzu : z = -u := by rw [hu, HN.out]; omega
      by_cases hbig : 9223372036854775808 < u
      · have hr : ¬ (-9223372036854775808 ≤ z ∧ z ≤ 9223372036854775807) := by omega
        have hI0 : I = 0 := by rw [HI.out]; exact if_neg hr
        have hB0 : B = false := by rw [HBB.out]; exact decide_eq_false hr
        have HI0 := hid hI0
        have HB0 := hid hB0
        clear hz hzu hr hI0 hB0 hu h64
        go_wp2
        go_ret2
        exact ⟨by rw [HI0.out, HB0.out]; rfl, HG3.out⟩
      · have hr : -9223372036854775808 ≤ z ∧ z ≤ 9223372036854775807 := by omega
        have hI0 : I = -(u - 1) - 1 := by rw [HI.out]; unfold i64N; rw [if_pos hr]; omega
        have hB0 : B = true := by rw [HBB.out]; exact decide_eq_true hr
        have hu2 : 1 ≤ u := by omega
        have hw0 : IntKind.u64.wrap (u - 1) = u - 1 := by rw [IntKind.wrap_u64]; omega
        have hw1 : IntKind.i64.wrap (u - 1) = u - 1 := IntWalk.i64_in _ (by omega)
        have hw2 : IntKind.i64.wrap (-(u - 1)) = -(u - 1) := IntWalk.i64_in _ (by omega)
        have hw3 : IntKind.i64.wrap (-(u - 1) - 1) = -(u - 1) - 1 := IntWalk.i64_in _ (by omega)
        have HI0 := hid hI0
        have HB0 := hid hB0
        clear hz hzu hr hI0 hB0 hu h64
        go_wp2
        go_ret2
        exact ⟨by rw [HI0.out, HB0.out]; rfl, HG3.out⟩
    | false =>
      have hz : ¬ z < 0 := by have := HSI.out; simpa using this.symm
      have hzu : z = u := by rw [hu, HN.out]; omega
      by_cases hbig : 9223372036854775808 ≤ u
      · have hr : ¬ (-9223372036854775808 ≤ z ∧ z ≤ 9223372036854775807) := by omega
        have hI0 : I = 0 := by rw [HI.out]; exact if_neg hr
        have hB0 : B = false := by rw [HBB.out]; exact decide_eq_false hr
        have HI0 := hid hI0
        have HB0 := hid hB0
        clear hz hzu hr hI0 hB0 hu h64
        go_wp2
        go_ret2
        exact ⟨by rw [HI0.out, HB0.out]; rfl, HG3.out⟩
      · have hr : -9223372036854775808 ≤ z ∧ z ≤ 9223372036854775807 := by omega
        have hI0 : I = u := by rw [HI.out]; unfold i64N; rw [if_pos hr]; omega
        have hB0 : B = true := by rw [HBB.out]; exact decide_eq_true hr
        have hw1 : IntKind.i64.wrap u = u := IntWalk.i64_in _ (by omega)
        have HI0 := hid hI0
        have HB0 := hid hB0
        clear hz hzu hr hI0 hB0 hu h64
        go_wp2
        go_ret2
        exact ⟨by rw [HI0.out, HB0.out]; rfl, HG3.out⟩
  · have hu : u = 0 := by rw [HU2.out]; unfold uN; rw [if_neg h64]
    have hok : ok = false := by rw [HO2.out]; exact decide_eq_false h64
    subst hok
    subst hu
    have hr : ¬ (-9223372036854775808 ≤ z ∧ z ≤ 9223372036854775807) := by have := HN.out; omega
    have hI0 : I = 0 := by rw [HI.out]; exact if_neg hr
    have hB0 : B = false := by rw [HBB.out]; exact decide_eq_false hr
    have HI0 := hid hI0
    have HB0 := hid hB0
    clear hr hI0 hB0 h64
    go_wp2
    go_ret2
    exact ⟨by rw [HI0.out, HB0.out]; rfl, HG3.out⟩

set_option maxHeartbeats 4000000 in
theorem xzprint_c (w : World) (v1 : Value) (z : Int) (L : Nat) (h1 : AZ w v1 z L) (hL : L ≤ 137438953472) :
    Calls Tryd.prog 54 #[v1] w (Is w (.string ⟨(Lib.itoa z).toArray⟩)) := by
  have HA := hid h1
  obtain ⟨neg, m, n, rfl, hm, hx⟩ := h1
  clear hm hx n
  have HNM : Hid (∀ V : World, Gr w V → Calls Tryd.prog 65 #[.agg #[.bool neg, m]] V (Ret V fun v w' => VZ w' V.heap.size v z L)) := fun V hV => xznorm_c V _ z L (HA.out.gr hV) (by omega)
  have HL := hid hL
  clear hL
  go_enter Tryd.func54, Tryd.ntmps54
  go_wp2_with fail
  refine (HNM.out _ (Gr.alloc _ _)).mono ?_
  rintro e w1 ⟨v, rfl, hv, hg1⟩
  obtain ⟨A, l, c, rfl, hv⟩ := hv.form
  obtain ⟨s, hs⟩ : ∃ s, s = decide (z < 0) := ⟨_, rfl⟩
  rw [← hs] at hv ⊢
  have HSI := hid hs
  clear hs
  have HVN := hid hv.mag
  have HG1 := hid ((Gr.alloc w _).trans hg1)
  obtain ⟨W1, hW1⟩ : ∃ V, V = w1.alloc (.cells #[.bool s, .slice A l c] 51) := ⟨_, rfl⟩
  go_upto_region 2 with (fail)
  obtain ⟨hgl, bl⟩ := al1 w1 #[.bool s, .slice A l c] 51
  rw [← hW1] at hgl bl ⊢
  have HV1 := hid (HVN.out.gr hgl)
  have HB1 := hid bl
  have HG2 := hid (HG1.out.trans hgl)
  have c0 : W1.cell? ⟨w1.heap.size, 0, none⟩ = some (.bool s) := bl.c 0 rfl
  have c1 : W1.cell? ⟨w1.heap.size, 1, none⟩ = some (.slice A l c) := bl.c 1 rfl
  clear hv hg1 hgl bl hW1
  obtain ⟨n, hn⟩ : ∃ n, n = z.natAbs := ⟨_, rfl⟩
  rw [← hn] at HV1
  have HN := hid hn
  obtain ⟨D, hD⟩ : ∃ D, D = Lib.decDigits n := ⟨_, rfl⟩
  have HPR : Hid (Calls Tryd.prog 48 #[.slice A l c] W1 (Is W1 (.string ⟨D.toArray⟩))) := by
    rw [hD]; exact xprint_c W1 _ n L HV1.out.an (by have := HL.out; omega)
  obtain ⟨S, hS⟩ : ∃ S : ByteArray, S = ⟨D.toArray⟩ := ⟨_, rfl⟩
  have hsz : S.size ≤ 10 * L + 1 := by
    rw [hS]
    show D.toArray.size ≤ _
    rw [List.size_toArray, hD]
    refine dec_bound ?_ n (Nat.le_refl _)
    obtain ⟨A', c', _, _, hl, _⟩ := HV1.out
    exact hl
  have h45 : ByteArray.size ⟨#[45]⟩ = 1 := rfl
  have hif : ¬ (9223372036854775807 < ByteArray.size ⟨#[45]⟩ + S.size) := by rw [h45]; have := HL.out; omega
  have HIF := hid hif
  have HD := hid hD
  have HSS := hid hS
  rw [← hS] at HPR
  clear hn hD hS hsz h45 hif
  cases s with
  | true =>
    have hz : z < 0 := by have := HSI.out; simpa using this.symm
    have HR : Hid (Lib.itoa z = 45 :: D) := by unfold Hid; rw [itoa_neg' hz, HD.out, HN.out]
    clear hz
    go_wp2_with fail
    refine HPR.out.mono ?_
    rintro e w2 ⟨rfl, hg⟩
    have HG3 := hid (HG2.out.trans hg)
    have hif := HIF.out
    have hadd : ∀ V : World, (Op.stringOp .add ⟨#[45]⟩ S).run Tryd.prog V = .ok (.string (⟨#[45]⟩ ++ S)) V := fun V => run_string_add_sum V _ _ (by omega)
    clear hg c0 c1
    go_wp2
    go_ret
    exact ⟨by rw [HR.out]; exact congrArg (fun s => Ending.returned (.string s)) (str45 HSS.out), HG3.out⟩
  | false =>
    have hz : ¬ z < 0 := by have := HSI.out; simpa using this.symm
    have HR : Hid (Lib.itoa z = D) := by unfold Hid; rw [itoa_pos' hz, HD.out, HN.out]
    clear hz
    go_wp2_with fail
    refine HPR.out.mono ?_
    rintro e w2 ⟨rfl, hg⟩
    have HG3 := hid (HG2.out.trans hg)
    clear hg c0 c1
    go_wp2
    go_ret
    exact ⟨by rw [HR.out, ← HSS.out]; rfl, HG3.out⟩
end Go.Proofs.YtkbgdiejjabdmaaDoor
