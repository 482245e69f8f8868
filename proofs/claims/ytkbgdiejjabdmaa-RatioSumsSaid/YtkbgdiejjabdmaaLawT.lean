/- The walk of the law RatioSums. -/
import Derived.Test.YtkbgdiejjabdmaaLawS
namespace Go.Proofs.Ytkbgdiejjabdmaa
open Go.RowKit

/-- An element of a list of ratios. -/
def El (W : World) (A : Option Addr) (i L : Nat) (q : Rat) : Prop := ∃ g o s A1 l1 c1 B1 m1 e1, A = some ⟨g, o, none⟩ ∧ W.cell? ⟨g, o + i * 3, none⟩ = some (.bool s) ∧ W.cell? ⟨g, o + i * 3 + 1, none⟩ = some (.slice A1 l1 c1) ∧ W.cell? ⟨g, o + i * 3 + 2, none⟩ = some (.slice B1 m1 e1) ∧ AQ W (.agg #[.bool s, .slice A1 l1 c1, .slice B1 m1 e1]) q L
theorem RL.gr {W V : World} {A : Option Addr} {n L : Nat} {r : Nat → Rat} (h : RL W A n L r) (hg : Gr W V) : RL V A n L r := fun i hi => by
  obtain ⟨g, o, s, A1, l1, c1, B1, m1, e1, hA, y0, y1, y2, hq⟩ := h i hi
  exact ⟨g, o, s, A1, l1, c1, B1, m1, e1, hA, Gr.cell hg y0, Gr.cell hg y1, Gr.cell hg y2, hq.gr hg⟩
/-- A list of ratios as it comes in. -/
def RL0 (W : World) (A : Option Addr) (n : Nat) : Prop := ∀ i, i < n → ∃ g o s A1 l1 c1 n1 B1 m1 e1 k1, A = some ⟨g, o, none⟩ ∧ W.cell? ⟨g, o + i * 3, none⟩ = some (.bool s) ∧ W.cell? ⟨g, o + i * 3 + 1, none⟩ = some (.slice A1 l1 c1) ∧ W.cell? ⟨g, o + i * 3 + 2, none⟩ = some (.slice B1 m1 e1) ∧ AN W (.slice A1 l1 c1) n1 l1 ∧ AN W (.slice B1 m1 e1) k1 m1

set_option maxHeartbeats 4000000 in
theorem ratiosums_law (W : World) {A : Option Addr} {n c : Nat} (hl : RL0 W A n) : Calls Try.prog 4 #[.slice A n c] W (Is W (.bool true)) := by
  by_cases hn : (20 : Int) < n
  · clear hl
    go_enter Try.func4, Try.ntmps4
    go_wp2
    go_ret
    exact ⟨rfl, Gr.refl _⟩
  have hn2 : n ≤ 20 := by omega
  have HL := hid hl
  clear hl
  go_enter Try.func4, Try.ntmps4
  go_wp2
  go_loop [3] (fun i => ∃ k : Nat, k ≤ n ∧ i = .int .i64 k ∧ Hid (∀ j, j < k → ∃ q, El W A j 6 q)) (fun i => n - (intOf i).toNat)
  case atStart => exact ⟨0, Nat.zero_le _, rfl, fun j h => absurd h (Nat.not_lt_zero _)⟩
  case round =>
    obtain ⟨k, hk, rfl, HS⟩ := hrel
    by_cases hlt : k < n
    · obtain ⟨g, o, s, A1, l1, c1, n1, B1, m1, e1, k1, rfl, y0, y1, y2, ha, hb⟩ := HL.out k hlt
      have HA := hid ha
      have HB := hid hb
      have Y0 := hid y0
      clear ha hb
      by_cases h1 : (6 : Int) < l1
      · go_wp2
        go_ret
        exact ⟨rfl, Gr.refl _⟩
      by_cases h2 : (6 : Int) < m1
      · go_wp2
        go_ret
        exact ⟨rfl, Gr.refl _⟩
      have HE : Hid (El W (some ⟨g, o, none⟩) k 6 (mkRat (sgnd s n1) k1)) := ⟨g, o, s, A1, l1, c1, B1, m1, e1, rfl, y0, y1, y2, s, _, _, n1, k1, rfl, HA.out.le (by omega), HB.out.le (by omega), rfl⟩
      go_wp2
      refine ⟨⟨k + 1, by omega, by go_num, fun j hj => ?_⟩, by first | (simp [intOf]; done) | (simp [intOf]; omega)⟩
      by_cases hjk : j = k
      · subst hjk; exact ⟨_, HE.out⟩
      · exact HS.out j (by omega)
    · have hkn : k = n := by omega
      subst hkn
      have hch : ∀ j, ∃ q, j < k → El W A j 6 q := fun j => by
        by_cases hj : j < k
        · obtain ⟨q, hq⟩ := HS.out j hj
          exact ⟨q, fun _ => hq⟩
        · exact ⟨0, fun h => absurd h hj⟩
      obtain ⟨r, hr⟩ := Classical.axiomOfChoice hch
      have HRL : Hid (RL W A k 6 r) := fun i hi => hr i hi
      clear hch hr
      go_wp2_with fail
      refine (rsum_c W HRL.out hn2).mono ?_
      rintro e w1 ⟨v1, rfl, hv1, hg1⟩
      have HV1 := hid hv1
      have HG1 := hid hg1
      clear hv1 hg1
      go_wp2_with fail
      refine (xrsum_c w1 (HRL.out.gr HG1.out) hn2).mono ?_
      rintro e w2 ⟨v2, rfl, hv2, hg2⟩
      have HV2 := hid hv2
      have HV12 := hid (HV1.out.gr hg2)
      have HG2 := hid (HG1.out.trans hg2)
      clear hv2 hg2
      have hsm := same_c w2 _ _ _ _ _ _ 7340031 HV12.out HV2.out (by decide)
      rw [decide_eq_true rfl] at hsm
      have HSM := hid hsm
      clear hsm
      go_wp2_with fail
      refine HSM.out.mono ?_
      rintro e w3 ⟨rfl, hg3⟩
      have HG3 := hid (HG2.out.trans hg3)
      clear hg3
      go_wp2
      go_ret
      exact ⟨rfl, HG3.out⟩
end Go.Proofs.Ytkbgdiejjabdmaa
