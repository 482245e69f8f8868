/- From a reading of a list of ratios to what it denotes. -/
import Derived.Test.YtkbgdiejjabdmaaLawT
import Derived.Test.YtkbgdiejjabdmaaOpen
namespace Go.Proofs.Ytkbgdiejjabdmaa
open Go.RowKit Go.ChangeShapes

theorem cells3 {w : World} {base : Nat} {a : Addr} {x y z : Value} (h : w.cells? base a 3 = some [x, y, z]) : w.cell? (a.add 0) = some x ∧ w.cell? (a.add 1) = some y ∧ w.cell? (a.add 2) = some z := by
  unfold World.cells? at h
  split at h
  · have e : List.range 3 = [0, 1, 2] := rfl
    rw [e] at h
    simp only [List.mapM_cons, List.mapM_nil] at h
    cases h0 : w.cell? (a.add 0) <;> cases h1 : w.cell? (a.add 1) <;> cases h2 : w.cell? (a.add 2) <;> simp_all
  · simp at h
theorem Try.cells_ratio : Try.prog.cellsOf 27 = 3 := by kernel_rfl

section
variable {H : Type} {enc : TypeId × Value → H} {W : World} {sp : Nat → Bool} {held : Bool} {fuel : Nat} {cs : List Value} {x : DataW H × List MemPlace}
theorem open_ratios (h : DataW.trod enc Try.prog W 0 sp held fuel 33 cs = some x) : ∃ A n c, cs = [.slice A n c] ∧ RL0 W A n := by
  rcases DataW.trod_slice Try.underlying33 h with ⟨rfl, _⟩ | ⟨a, len, cap, elems, rest, m, _, rfl, _, _, _, _, hlen, hel, _, _⟩
  · exact ⟨none, 0, 0, rfl, fun i hi => absurd hi (Nat.not_lt_zero _)⟩
  · have key : ∀ i, i < len → ∃ s A1 l1 c1 n1 B1 m1 e1 k1, W.cells? 0 (a.add (i * 3)) 3 = some [.bool s, .slice A1 l1 c1, .slice B1 m1 e1] ∧ AN W (.slice A1 l1 c1) n1 l1 ∧ AN W (.slice B1 m1 e1) k1 m1 := fun i hi => by
      have h1 := hel i hi
      rw [List.getElem?_eq_getElem (by omega), Try.cells_ratio] at h1
      obtain ⟨cs', hcs, hy⟩ := Option.bind_eq_some_iff.1 h1
      obtain ⟨s, A1, l1, c1, n1, B1, m1, e1, k1, rfl, ha, hb, _, _⟩ := open_ratio hy
      exact ⟨s, A1, l1, c1, n1, B1, m1, e1, k1, hcs, ha, hb⟩
    refine ⟨some a, len, cap, rfl, fun i hi => ?_⟩
    obtain ⟨s, A1, l1, c1, n1, B1, m1, e1, k1, hcs, ha, hb⟩ := key i hi
    obtain ⟨y0, y1, y2⟩ := cells3 hcs
    have hs : a.spot = none := by
      obtain ⟨_, _, _, _, _, _, _, _, _, hcs2, _, _⟩ := key 0 (Nat.lt_of_le_of_lt (Nat.zero_le i) hi)
      obtain ⟨z0, _, _⟩ := cells3 hcs2
      have h3 := spot_none z0
      simpa [Addr.add] using h3
    have e1' : a.add (i * 3) = ⟨a.block, a.off + i * 3, none⟩ := add_none hs _
    rw [e1', add_none rfl] at y0 y1 y2
    refine ⟨a.block, a.off, s, A1, l1, c1, n1, B1, m1, e1, k1, by cases a; simp at hs; rw [hs], y0, y1, y2, ha, hb⟩
end
end Go.Proofs.Ytkbgdiejjabdmaa
