/- The row of the law RatioFloor. -/
import Derived.Test.YtkbgdiejjabdmaaLawC
import Derived.Test.YtkbgdiejjabdmaaOpen
import Derived.WalkKit
import Derived.ProofKit
import Derived.OpenShut
namespace Go.Proofs.Ytkbgdiejjabdmaa.ratioFloor
open Go.ChangeShapes Go.WideShapes Go.ChangeAt Go.RowKit

theorem own : ownKnob Try.prog.godebug = none := by kernel_rfl
theorem flat : flatB Try.prog [27, 25, 23, 68, 4] = true := by kernel_rfl

set_option maxRecDepth 100000 in
theorem lifted (os : Os) (started : os.Started) (H : Type) (enc : TypeId × Value → H) :
    ReturnsInHanded {} Try.checked os 6 .any (Rows.ratioFloorSpec.pre6 enc Try.prog Try.f6 Rows.ratioFloorRow.domain false) (Rows.ratioFloorSpec.post enc Try.prog Try.f6 false true false false) := by
  refine returnsInHanded_of_change (C := Try.checked) own started (by kernel_rfl) Try.func6
    (ChangeSpec.witness6 (enc := enc) (C := Try.checked) false ⟨#[], #[.agg #[.bool false, .slice none 0 0, .slice none 0 0]], []⟩ 8 (by kernel_rfl) (by kernel_rfl) (by kernel_rfl) (by kernel_rfl)) ?_
  intro W base args ds gs before hval0 hW hcnd _
  have hval : ∀ (j : Nat) t v, Try.f6.params[j]? = some t → args[j]? = some v → Value.okWide Try.prog W .any base t v := hval0
  have hW' := hW
  obtain ⟨p, q, hA0, hV, rfl, hfz, hnd⟩ := hW
  have hA : DataW.TrodAll enc Try.prog W 0 (fun _ => true) true Try.f6.params.toList args.toList ds p := hA0
  rw [Try.params6] at hA hval
  have hAA := hA
  obtain ⟨v0, vs0, d0, ds0, p0, q0, hargs0, rfl, rfl, h0, r0⟩ := trodAll_cons hA
  obtain ⟨rfl, rfl, rfl⟩ := trodAll_nil r0
  obtain rfl : args = #[v0] := by cases args; simp_all
  obtain ⟨rfl, rfl⟩ := trodVars_none hV
  obtain ⟨cs0, rfl, _⟩ := okWide_struct Try.underlying27 (hval 0 27 v0 rfl rfl)
  obtain ⟨fuel0, h0⟩ := h0
  obtain ⟨s0, A0, l0, c0, n0, B0, m0, e0, k0, hc0, hn0, hk0, _, _⟩ := open_ratio h0
  obtain rfl : cs0 = #[.bool s0, .slice A0 l0 c0, .slice B0 m0 e0] := by
    have h : cs0.toList = [.bool s0, .slice A0 l0 c0, .slice B0 m0 e0] := hc0
    rw [← Array.toArray_toList (xs := cs0), h]
  clear hA0 hval0
  simp only [List.append_nil] at hW'
  refine (ratiofloor_law W hn0 hk0).mono fun e W' ⟨he, hg⟩ => ?_
  subst he
  have hlt := hW'.lt
  exact ⟨_, rfl, _, _, _, [], _, [], hW', trodAll_cons_mk (shut_bool Try.underlying4 _) trodAll_mk0, trodAll_grow flat (Below.block hg) (fun b => decide (b < W.heap.size)) _ _ _ _ (by decide) hAA (fun x hx => by have h := hlt x (by simpa using hx); simpa using h), rfl, Below.frame hg _, fun h => by cases h⟩

theorem over : Rows.ratioFloorRow.holds Try.pinned (OpenSpec.ofChange Rows.ratioFloorSpec) :=
  OpenClaim.holds_of_wide 6 Try.f6 rfl rfl rfl rfl rfl rfl rfl ⟨rfl, rfl, rfl, rfl, rfl⟩ rfl rfl rfl rfl rfl (by kernel_rfl) Try.func6 (by kernel_rfl)
    (of_decide_eq_true (by kernel_rfl)) (by unfold Func.isWrapper; first | (rw [if_pos (by decide +kernel)]; kernel_rfl) | (rw [if_neg (by decide +kernel)]; exact ⟨rfl, rfl⟩))
    (fun os started H enc _ => lifted os started H enc)
theorem proved : Rows.RatioFloorSaid := over
end Go.Proofs.Ytkbgdiejjabdmaa.ratioFloor
