/- The walks of integer.Of and DivMod, as integers. -/
import Derived.Test.YtkbgdiejjabdmaaDoorIntB
namespace Go.Proofs.YtkbgdiejjabdmaaDoor
open Go.RowKit

set_option maxHeartbeats 4000000 in
theorem zof_c (w : World) (n : Int) (h0 : -9223372036854775808 ≤ n) (h1 : n ≤ 9223372036854775807) :
    Calls Tryd.prog 57 #[.int .i64 n] w (Ret w fun v w' => VZ w' w.heap.size v n 2) := by
  by_cases hn : n < 0
  · obtain ⟨k, hk⟩ : ∃ k, k = -(n + 1) := ⟨_, rfl⟩
    have hk2 : n = -(k + 1) := by omega
    subst hk2
    have hd : decide (-(k + 1) < 0) = true := decide_eq_true hn
    have hab : (-(k + 1)).natAbs = (k + 1).toNat := by omega
    have HVN : Hid (∀ (V : World) (b : Nat) (A : Option Addr) (l c : Nat), VN V b (.slice A l c) (k + 1).toNat 2 → VZ V b (.agg #[.bool true, .slice A l c]) (-(k + 1)) 2) := fun V b A l c h => by
      refine ⟨_, by rw [hd], ?_⟩
      rw [hab]
      exact h
    have k0 : 0 ≤ k := by omega
    have k1 : k < 9223372036854775808 := by omega
    have hw0 : -(k + 1) + 1 = -k := by omega
    have hw1 : IntKind.i64.wrap (-k) = -k := IntWalk.i64_in _ (by omega)
    have hw2 : IntKind.i64.wrap k = k := IntWalk.i64_in _ (by omega)
    have hw3 : IntKind.u64.wrap k = k := by rw [IntKind.wrap_u64]; omega
    have hw4 : IntKind.u64.wrap (k + 1) = k + 1 := by rw [IntKind.wrap_u64]; omega
    have hw5 : - -k = k := by omega
    clear hk hd hab h0 h1
    go_enter Tryd.func57, Tryd.ntmps57
    go_wp2_with fail
    obtain ⟨W, hW⟩ : ∃ W, W = w.alloc (.cells #[.bool false, .slice none 0 0] 51) := ⟨_, rfl⟩
    obtain ⟨hg, b0⟩ := al1 w #[.bool false, .slice none 0 0] 51
    rw [← hW] at hg b0 ⊢
    clear hW
    have HB0 := hid b0
    have HG := hid hg
    have HS : Hid (w.heap.size < W.heap.size) := by have h := b0.lt; unfold Hid; omega
    clear hg b0
    refine (of_c W (k + 1) (by omega) (by omega)).mono ?_
    rintro e w2 ⟨v2, rfl, hm, hg2⟩
    obtain ⟨A, c, rfl, hm⟩ := hm
    have HV : Hid (VN w2 W.heap.size (.slice A (limbs ((k + 1)).toNat).length c) ((k + 1)).toNat 2) := ⟨A, c, rfl, hm⟩
    obtain ⟨ln, hln⟩ : ∃ ln, ln = (limbs ((k + 1)).toNat).length := ⟨_, rfl⟩
    rw [← hln] at HV ⊢
    have HVZ := hid (HVN.out _ _ _ _ _ HV.out)
    have HG2 := hid hg2
    have d00 := (HB0.out.gr HG2.out).c 0 rfl
    have e00 := (HB0.out.gr HG2.out).free 0
    have d01 := (HB0.out.gr HG2.out).c 1 rfl
    have e01 := (HB0.out.gr HG2.out).free 1
    have f0 := (HB0.out.gr HG2.out).lt
    clear hm hg2 hln HV
    go_wp2
    refine int_end rfl rfl rfl (HB0.out.gr HG2.out) ?_
    intro V hV
    have := HS.out
    have a1 := HVZ.out.exb hV HB0.out.lt
    have a2 := HB0.out.lt
    have a3 := (HG.out.trans HG2.out).ex hV (by omega)
    have a4 := a1.base (b' := w.heap.size) (by omega)
    exact ⟨_, rfl, a4, a3⟩
  · have hd : decide (n < 0) = false := decide_eq_false hn
    have hab : n.natAbs = n.toNat := by omega
    have HVN : Hid (∀ (V : World) (b : Nat) (A : Option Addr) (l c : Nat), VN V b (.slice A l c) n.toNat 2 → VZ V b (.agg #[.bool false, .slice A l c]) n 2) := fun V b A l c h => by
      refine ⟨_, by rw [hd], ?_⟩
      rw [hab]
      exact h
    have hw3 : IntKind.u64.wrap n = n := by rw [IntKind.wrap_u64]; omega
    clear hd hab
    go_enter Tryd.func57, Tryd.ntmps57
    go_wp2_with fail
    obtain ⟨W, hW⟩ : ∃ W, W = w.alloc (.cells #[.bool false, .slice none 0 0] 51) := ⟨_, rfl⟩
    obtain ⟨hg, b0⟩ := al1 w #[.bool false, .slice none 0 0] 51
    rw [← hW] at hg b0 ⊢
    clear hW
    have HB0 := hid b0
    have HG := hid hg
    have HS : Hid (w.heap.size < W.heap.size) := by have h := b0.lt; unfold Hid; omega
    clear hg b0
    refine (of_c W n (by omega) (by omega)).mono ?_
    rintro e w2 ⟨v2, rfl, hm, hg2⟩
    obtain ⟨A, c, rfl, hm⟩ := hm
    have HV : Hid (VN w2 W.heap.size (.slice A (limbs (n).toNat).length c) (n).toNat 2) := ⟨A, c, rfl, hm⟩
    obtain ⟨ln, hln⟩ : ∃ ln, ln = (limbs (n).toNat).length := ⟨_, rfl⟩
    rw [← hln] at HV ⊢
    have HVZ := hid (HVN.out _ _ _ _ _ HV.out)
    have HG2 := hid hg2
    have d00 := (HB0.out.gr HG2.out).c 0 rfl
    have e00 := (HB0.out.gr HG2.out).free 0
    have d01 := (HB0.out.gr HG2.out).c 1 rfl
    have e01 := (HB0.out.gr HG2.out).free 1
    have f0 := (HB0.out.gr HG2.out).lt
    clear hm hg2 hln HV
    go_wp2
    refine int_end rfl rfl rfl (HB0.out.gr HG2.out) ?_
    intro V hV
    have := HS.out
    have a1 := HVZ.out.exb hV HB0.out.lt
    have a2 := HB0.out.lt
    have a3 := (HG.out.trans HG2.out).ex hV (by omega)
    have a4 := a1.base (b' := w.heap.size) (by omega)
    exact ⟨_, rfl, a4, a3⟩
end Go.Proofs.YtkbgdiejjabdmaaDoor
