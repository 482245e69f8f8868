/- The walk of the reference's Same, as numbers. -/
import Derived.Test.YtkbgdiejjabdmaaDoorNatL
import Derived.BigQuiet
namespace Go.Proofs.YtkbgdiejjabdmaaDoor
open Go.RowKit

theorem list_eq_getD {x y : List Int} (hl : x.length = y.length) (h : ∀ j, j < x.length → x.getD j 0 = y.getD j 0) : x = y := by
  apply List.ext_getElem hl
  intro i h1 h2
  have := h i h1
  rwa [List.getD_eq_getElem?_getD, List.getD_eq_getElem?_getD, List.getElem?_eq_getElem h1, List.getElem?_eq_getElem h2] at this

set_option maxHeartbeats 4000000 in
theorem xsame_c (w : World) (b1 b2 : Nat) (v1 v2 : Value) (m n L : Nat) (h1 : VN w b1 v1 m L) (h2 : VN w b2 v2 n L) (hL : L ≤ 1099511627776) :
    Calls Tryd.prog 27 #[v1, v2] w (Is w (.bool (decide (m = n)))) := by
  obtain ⟨A1, c1, rfl, hr1, hl1, _⟩ := h1
  obtain ⟨A2, c2, rfl, hr2, hl2, _⟩ := h2
  obtain ⟨x, hx⟩ : ∃ x, x = limbs m := ⟨_, rfl⟩
  obtain ⟨y, hy⟩ : ∃ y, y = limbs n := ⟨_, rfl⟩
  obtain ⟨b, hb⟩ : ∃ b, b = decide (m = n) := ⟨_, rfl⟩
  rw [← hx] at hr1 hl1 ⊢
  rw [← hy] at hr2 hl2 ⊢
  rw [← hb]
  have hbt : x = y → b = true := fun h => by rw [hb]; exact decide_eq_true (limbs_inj (by rw [← hx, ← hy, h]))
  have hbf : x ≠ y → b = false := fun h => by rw [hb]; exact decide_eq_false (fun h2 => h (by rw [hx, hy, h2]))
  have HBT := hid hbt
  have HBF := hid hbf
  have C1 := hid hr1.cells
  have C2 := hid hr2.cells
  clear hbt hbf hb hx hy hr1 hr2
  by_cases hlen : x.length = y.length
  · have HLEN := hid hlen
    obtain ⟨l, hl⟩ : ∃ l, l = x.length := ⟨_, rfl⟩
    have hl2' : y.length = l := by omega
    have E1 := hid hl
    have E2 := hid hl2'
    rw [← hl] at hl1 ⊢
    rw [hl2']
    have hne : ((l : Int) != (l : Int)) = false := by simp
    clear hl hl2' hlen hl2
    go_enter Tryd.func27, Tryd.ntmps27
    go_wp2
    go_loopw [5] (fun i wr => ∃ k : Nat, k ≤ l ∧ i = .int .i64 k ∧ Hid (∀ j, j < k → x.getD j 0 = y.getD j 0) ∧ Dr w wr) (fun i _ => l - (intOf i).toNat)
    case atStart => exact ⟨0, Nat.zero_le _, rfl, fun j h => absurd h (Nat.not_lt_zero _), Dr.refl _⟩
    case round =>
      obtain ⟨k, hk, rfl, HE, d, rfl⟩ := hrel
      by_cases hlt : k < l
      · obtain ⟨g1, o1, rfl, hc1⟩ := C1.out (by have := E1.out; omega)
        obtain ⟨g2, o2, rfl, hc2⟩ := C2.out (by have := E2.out; omega)
        have hx1 : w.cell? ⟨g1, o1 + k, none⟩ = some (.int .u32 (x.getD k 0)) := hc1 _ (by have := E1.out; omega)
        have hx2 : w.cell? ⟨g2, o2 + k, none⟩ = some (.int .u32 (y.getD k 0)) := hc2 _ (by have := E2.out; omega)
        obtain ⟨p, hp⟩ : ∃ p, p = x.getD k 0 := ⟨_, rfl⟩
        obtain ⟨q, hq⟩ : ∃ q, q = y.getD k 0 := ⟨_, rfl⟩
        rw [← hp] at hx1
        rw [← hq] at hx2
        have HP := hid hp
        have HQ := hid hq
        clear hp hq hc1 hc2
        have i0 : 0 ≤ (k : Int) := by omega
        have i1 : (k : Int) < l := by omega
        by_cases hpq : p = q
        · have hpq2 : (p != q) = false := by simp [hpq]
          have HPQ := hid hpq
          clear hpq
          go_wp2
          go_quiet (fail)
          go_wp2
          go_roundw
          case rel =>
            refine ⟨k + 1, by omega, by go_num, fun j hj => ?_, (by repeat (first | exact ⟨_, rfl⟩ | refine Dr.next ?_ _))⟩
            by_cases hjk : j = k
            · subst hjk; rw [← HP.out, ← HQ.out]; exact HPQ.out
            · exact HE.out j (by omega)
          case measure => simp [intOf]; omega
        · have hpq2 : (p != q) = true := by simpa using hpq
          have hr : b = false := HBF.out (fun h => hpq (by rw [HP.out, HQ.out, h]))
          have HR := hid hr
          clear hpq hr
          go_wp2
          go_quiet (fail)
          go_wp2
          go_ret
          exact ⟨by rw [HR.out]; rfl, Dr.gr (by repeat (first | exact Dr.refl _ | exact ⟨_, rfl⟩ | refine Dr.next ?_ _))⟩
      · have hkl : k = l := by omega
        have hr : b = true := HBT.out (list_eq_getD HLEN.out (fun j hj => HE.out j (by have := E1.out; omega)))
        have HR := hid hr
        clear hr
        go_wp2
        go_ret
        exact ⟨by rw [HR.out]; rfl, Dr.gr ⟨_, rfl⟩⟩
  · have hr : b = false := HBF.out (fun h => hlen (by rw [h]))
    have HR := hid hr
    have hne : ((x.length : Int) != (y.length : Int)) = true := by rw [bne_iff_ne]; omega
    clear hr
    go_enter Tryd.func27, Tryd.ntmps27
    go_wp2
    go_ret
    exact ⟨by rw [HR.out]; rfl, Gr.refl _⟩

/-- Two rows of one number. -/
theorem xsame_t (w : World) (b1 b2 : Nat) (v1 v2 : Value) (n L : Nat) (h1 : VN w b1 v1 n L) (h2 : VN w b2 v2 n L) (hL : L ≤ 1099511627776) :
    Calls Tryd.prog 27 #[v1, v2] w (Is w (.bool true)) := by
  have h := xsame_c w b1 b2 v1 v2 n n L h1 h2 hL
  rw [decide_eq_true rfl] at h
  exact h
end Go.Proofs.YtkbgdiejjabdmaaDoor
