/- The row and the card of the law IntegerArithmetic. -/
import Derived.Test.YtkbgdiejjabdmaaDoorZlArithmetic
import Derived.Test.YtkbgdiejjabdmaaDoorOpD
import Derived.Test.YtkbgdiejjabdmaaDoorFac
import Derived.Test.YtkbgdiejjabdmaaDoorCards
import Derived.Test.YtkbgdiejjabdmaaDoorTie
import Derived.WalkKit
import Derived.ProofKit
import Derived.OpenShut
import Derived.Deep.DeepHandedRow
import Derived.LaidMore
import Derived.SevenTiedAt
namespace Go.Proofs.YtkbgdiejjabdmaaDoor.integerArithmetic
open Go.ChangeShapes Go.WideShapes Go.ChangeAt Go.RowKit

theorem own : ownKnob Tryd.prog.godebug = none := by kernel_rfl
theorem flat : flatB Tryd.prog [51, 24, 78, 4] = true := by kernel_rfl
theorem laid_met (os : Os) : laidMet Tryd.prog Rows.integerArithmeticUptoRow.laid ((World.doorLaid Tryd.prog 24 os).forCall (fun _ _ => 0) ⟨#[], #[.agg #[.bool false, .slice none 0 0], .agg #[.bool false, .slice none 0 0]], []⟩).memory :=
  laidMet_of_run' 8 (by kernel_rfl) (by kernel_rfl)
theorem reads (os : Os) {H : Type} (enc : TypeId × Value → H) : ∃ places, DataW.whole enc Tryd.prog ((World.doorLaid Tryd.prog 24 os).forCall (fun _ _ => 0) ⟨#[], #[.agg #[.bool false, .slice none 0 0], .agg #[.bool false, .slice none 0 0]], []⟩).memory Tryd.f16.params.toList (Rows.OpenSpec.upto Rows.integerArithmeticSpec).vars false #[.agg #[.bool false, .slice none 0 0], .agg #[.bool false, .slice none 0 0]].toList 8 = some ([.agg [.lit (.bool false), .nil], .agg [.lit (.bool false), .nil]], [], places) :=
  ⟨[], by kernel_rfl⟩

set_option maxRecDepth 100000 in
theorem lifted (os : Os) (started : os.Started) (H : Type) (enc : TypeId × Value → H) (F : Stop.Interp) :
    ReturnsInHanded {} Tryd.checked os 16 .any ((Rows.OpenSpec.upto Rows.integerArithmeticSpec).preRow enc Tryd.prog Tryd.f16 Rows.integerArithmeticUptoRow.domain false Rows.integerArithmeticUptoRow.laid) (((Rows.OpenSpec.upto Rows.integerArithmeticSpec).at F).post enc Tryd.prog Tryd.f16 false true false false) := by
  obtain ⟨places, hx⟩ := reads os enc
  refine returnsInHanded_of_row (C := Tryd.checked) (s := Rows.OpenSpec.upto Rows.integerArithmeticSpec) own started (by kernel_rfl) Tryd.func16
    (witness_row_at (enc := enc) (C := Tryd.checked) false (World.doorLaid Tryd.prog 24 os) #[.agg #[.bool false, .slice none 0 0], .agg #[.bool false, .slice none 0 0]] rfl (by kernel_rfl) (by kernel_rfl) (by kernel_rfl)
      (OpenSpec.preRow_of_cond 8 hx (by kernel_rfl) (fun k hk => by cases hk; kernel_rfl) (by kernel_rfl) (laid_met os))) ?_
  intro W base args ds gs before hval0 hW _ hcond0 _ hL _ _
  have hcond : Rows.uptoSmall H (ds ++ gs) = true := hcond0 _ rfl
  have hb := bulk_bound hcond
  clear hcond0 hcond
  have hval : ∀ (j : Nat) t v, Tryd.f16.params[j]? = some t → args[j]? = some v → Value.okWide Tryd.prog W .any base t v := hval0
  have hW' : DataW.Whole enc Tryd.prog Tryd.f16.params.toList Rows.integerArithmeticSpec.vars false W args.toList ds gs before := hW
  have ht : Tab W := tab_of hL
  clear hL
  obtain ⟨p, q, hA0, hV, rfl, hfz, hnd⟩ := hW
  have hA : DataW.TrodAll enc Tryd.prog W 0 (fun _ => true) true Tryd.f16.params.toList args.toList ds p := hA0
  rw [Tryd.params16] at hA hval
  have hAA := hA
  obtain ⟨v0, vs0, d0, ds0, p0, q0, hargs0, rfl, rfl, h0, r0⟩ := trodAll_cons hA
  obtain ⟨v1, vs1, d1, ds1, p1, q1, hargs1, rfl, rfl, h1, r1⟩ := trodAll_cons r0
  obtain ⟨rfl, rfl, rfl⟩ := trodAll_nil r1
  obtain rfl : args = #[v0, v1] := by cases args; simp_all
  obtain ⟨rfl, rfl⟩ := trodVars_none hV
  simp only [List.append_nil, Rows.uptoBulkAll] at hb
  obtain ⟨cs0, rfl, _⟩ := okWide_struct Tryd.underlying51 (hval 0 51 v0 rfl rfl)
  obtain ⟨fuel0, h0⟩ := h0
  obtain ⟨s0, A0, l0, c0, n0, hc0, hn0, hl0⟩ := open_intb h0
  obtain rfl : cs0 = #[.bool s0, .slice A0 l0 c0] := by
    have h : cs0.toList = [.bool s0, .slice A0 l0 c0] := hc0
    rw [← Array.toArray_toList (xs := cs0), h]
  simp only at hl0
  obtain ⟨cs1, rfl, _⟩ := okWide_struct Tryd.underlying51 (hval 1 51 v1 rfl rfl)
  obtain ⟨fuel1, h1⟩ := h1
  obtain ⟨s1, A1, l1, c1, n1, hc1, hn1, hl1⟩ := open_intb h1
  obtain rfl : cs1 = #[.bool s1, .slice A1 l1 c1] := by
    have h : cs1.toList = [.bool s1, .slice A1 l1 c1] := hc1
    rw [← Array.toArray_toList (xs := cs1), h]
  simp only at hl1
  clear hA0 hval0
  simp only [List.append_nil] at hW'
  refine (integerarithmetic_law W ht (hn0.le (by omega)) (hn1.le (by omega))).mono fun e W' ⟨he, hg⟩ => ?_
  subst he
  have hlt := hW'.lt
  exact ⟨_, rfl, _, _, _, [], _, [], hW', trodAll_cons_mk (shut_bool Tryd.underlying4 _) trodAll_mk0, trodAll_grow flat (Below.block hg) (fun b => decide (b < W.heap.size)) _ _ _ _ (by decide) hAA (fun x hx => by have h := hlt x (by simpa using hx); simpa using h), rfl, Below.frame hg _, fun h => by cases h⟩

theorem j_wf : Rows.integerArithmeticUptoRow.wf (_root_.Go.OpenSpec.ofChange (Rows.OpenSpec.upto Rows.integerArithmeticSpec).bare) = true := by kernel_rfl
theorem j_params : Tryd.f16.params.all (Tryd.pinned.checked.prog.readableRec ·) = true := by kernel_rfl
theorem j_tie : namedTie Tryd.pinned.checked.prog Rows.integerArithmeticUptoRow.named (Rows.OpenSpec.upto Rows.integerArithmeticSpec).bare.vars = true := by kernel_rfl
theorem j_st : (Rows.integerArithmeticUptoRow.stops == []) = true := by kernel_rfl
theorem j_kn : (Rows.integerArithmeticUptoRow.knobs == []) = true := by kernel_rfl
theorem j_inp : (Rows.integerArithmeticUptoRow.inPlace == Tryd.pinned.checked.prog.inPlace 16) = true := by kernel_rfl
theorem j_unf : (Rows.integerArithmeticUptoRow.unfollowed == Tryd.pinned.checked.prog.unfollowed 16) = true := by kernel_rfl
theorem j_rec : (Rows.integerArithmeticUptoRow.recurses == Tryd.pinned.checked.prog.recurses 16) = true := by kernel_rfl
theorem j_nam : (Rows.integerArithmeticUptoRow.named == Tryd.pinned.checked.prog.varsNamed 16) = true := by kernel_rfl
theorem j_map : (Rows.integerArithmeticUptoRow.maps == (Tryd.f16.params.toList ++ (Rows.OpenSpec.upto Rows.integerArithmeticSpec).bare.plain.varTypes Tryd.pinned.checked.prog).any (Tryd.pinned.checked.prog.mapsRec ·)) = true := by kernel_rfl
theorem j_ifa : (Rows.integerArithmeticUptoRow.ifaces == (Tryd.f16.params.toList ++ (Rows.OpenSpec.upto Rows.integerArithmeticSpec).bare.plain.varTypes Tryd.pinned.checked.prog).any (Tryd.pinned.checked.prog.ifacesRec ·)) = true := by kernel_rfl
theorem j_mao : (Rows.integerArithmeticUptoRow.mapsOut == Tryd.pinned.checked.prog.mapsAmong Tryd.f16.resultTypes.toList) = true := by kernel_rfl
theorem j_loo : (Rows.integerArithmeticUptoRow.loops == (Tryd.f16.params.toList ++ (Rows.OpenSpec.upto Rows.integerArithmeticSpec).bare.plain.varTypes Tryd.pinned.checked.prog).any (Tryd.pinned.checked.prog.loopsFrom ·)) = true := by kernel_rfl
theorem j_wid : (Rows.integerArithmeticUptoRow.wideKeys == (Tryd.f16.params.toList ++ (Rows.OpenSpec.upto Rows.integerArithmeticSpec).bare.plain.varTypes Tryd.pinned.checked.prog ++ Tryd.f16.resultTypes.toList).any (Tryd.pinned.checked.prog.wideKeysFrom ·)) = true := by kernel_rfl
theorem j_vrs : (Rows.OpenSpec.upto Rows.integerArithmeticSpec).bare.vars.all (Tryd.pinned.checked.prog.varReadable ·) = true := by kernel_rfl
theorem j_res : Tryd.f16.resultTypes.all (fun t => Tryd.pinned.checked.prog.readableRec t && decide (t < Tryd.pinned.checked.prog.types.size)) = true := by kernel_rfl
theorem j_ifo : (Rows.integerArithmeticUptoRow.ifacesOut == Tryd.f16.resultTypes.toList.any (Tryd.pinned.checked.prog.ifacesRec ·)) = true := by kernel_rfl
theorem j_lpo : (Rows.integerArithmeticUptoRow.loopsOut == Tryd.f16.resultTypes.toList.any (Tryd.pinned.checked.prog.loopsFrom ·)) = true := by kernel_rfl
theorem j_plk : (Rows.integerArithmeticUptoRow.plainKeys == Tryd.pinned.checked.prog.plainKeys) = true := by kernel_rfl
theorem j_sho : Rows.integerArithmeticUptoRow.shortTexts.isNone = true := by kernel_rfl
theorem j_lif : (Rows.integerArithmeticUptoRow.lifted == Tryd.pinned.checked.prog.liftsFinal) = true := Facts.lif
theorem j_mak : (Tryd.pinned.checked.prog.make == some Rows.integerArithmeticUptoRow.make) = true := Facts.mak
theorem j_kin : (Rows.integerArithmeticUptoRow.kinds == (if Rows.integerArithmeticUptoRow.domain.isEmpty then [] else Tryd.f16.params.toList.map fun t => match Tryd.pinned.checked.prog.underlying t with | some (.int k) => some k | _ => none)) = true := by kernel_rfl
theorem j_pin : (Rows.integerArithmeticUptoRow.pinned == Rows.integerArithmeticUptoRow.pinnedBy) = true := by kernel_rfl
theorem j_vei : (Rows.integerArithmeticUptoRow.veiled == (Tryd.f16.params.toList ++ (Rows.OpenSpec.upto Rows.integerArithmeticSpec).bare.plain.varTypes Tryd.pinned.checked.prog ++ Tryd.f16.resultTypes.toList).any (Tryd.pinned.checked.prog.veiledRec ·)) = true := by kernel_rfl
theorem j_vef : Rows.integerArithmeticUptoRow.veiledFits Tryd.pinned.checked.prog Tryd.f16.params.toList (Tryd.f16.params.toList ++ (Rows.OpenSpec.upto Rows.integerArithmeticSpec).bare.plain.varTypes Tryd.pinned.checked.prog ++ Tryd.f16.resultTypes.toList) = true := by kernel_rfl
set_option maxRecDepth 100000 in
theorem joined : joinedFacts Tryd.pinned.checked.prog 16 Tryd.f16 (Rows.OpenSpec.upto Rows.integerArithmeticSpec).bare Rows.integerArithmeticUptoRow = true := joined_of j_wf Facts.P1 Facts.P2 j_params j_tie j_st Facts.P3 j_kn Facts.P4 j_inp j_unf j_rec j_nam j_map j_ifa j_mao j_loo j_wid j_vrs j_res j_ifo j_lpo j_plk j_sho Facts.P5 Facts.P6 j_lif j_mak j_kin j_pin j_vei j_vef
theorem fnamed : Tryd.pinned.checked.prog.funcNamed "examboard/examboardlaw02.IntegerArithmetic" = some 16 := by kernel_rfl
theorem inst : Tryd.f16.isInstance Tryd.pinned.checked.prog Rows.integerArithmeticUptoRow.origin Rows.integerArithmeticUptoRow.targs := of_decide_eq_true (by kernel_rfl)
theorem wrap : Tryd.f16.isWrapper Tryd.pinned.checked.prog Rows.integerArithmeticUptoRow.wrapper Rows.integerArithmeticUptoRow.mainSum := by unfold Func.isWrapper; first | (rw [if_pos (by decide +kernel)]; kernel_rfl) | (rw [if_neg (by decide +kernel)]; exact ⟨rfl, rfl⟩)
theorem over : Rows.IntegerArithmeticUptoSaid :=
  OpenClaim.holds_of_cond 16 Tryd.f16 rfl rfl rfl rfl rfl rfl rfl ⟨rfl, rfl, rfl, rfl, rfl⟩ rfl rfl rfl rfl rfl fnamed Tryd.func16 joined inst wrap
    (fun os started H enc _ F => by rw [OpenClaim.pre_eq_preRow]; exact lifted os started H enc F)
theorem looks : false = Tryd.pinned.checked.prog.looks [] := by kernel_rfl
theorem stand : ([51, 51].all fun u => !Tryd.prog.wantsStandIn u) = true := by kernel_rfl
theorem plain (f : FuncId) (fn : Func) (hf : Tryd.pinned.checked.prog.funcNamed "examboard/examboardlaw02.IntegerArithmetic" = some f) (hfn : Tryd.pinned.checked.prog.funcs[f]? = some fn) :
    false = Tryd.pinned.checked.prog.looks [] ∧ ∀ (j : Nat) t, fn.params[j]? = some t → Tryd.pinned.checked.prog.wantsStandIn t = false := by
  obtain rfl : f = 16 := Option.some.inj (fnamed.symm.trans hf) |>.symm
  obtain rfl : fn = Tryd.f16 := (Option.some.inj (Tryd.func16.symm.trans hfn)).symm
  refine ⟨looks, fun j t ht => ?_⟩
  rw [Tryd.params16] at ht
  have hm : t ∈ [51, 51] := by simpa using Array.mem_of_getElem? ht
  exact (show Tryd.prog.wantsStandIn t = false by simpa using List.all_eq_true.1 stand t hm)
theorem wft : Rows.integerArithmeticUptoRow.wfByText (Rows.OpenSpec.upto Rows.integerArithmeticSpec) = true := by kernel_rfl
theorem mainIs : Tryd.pinned.checked.prog.mainIs = some (Rows.integerArithmeticUptoCard.stood.harness.1, Rows.integerArithmeticUptoCard.stood.harness.2.toList) := Facts.mainIs
theorem goes : false = Rows.integerArithmeticUptoRow.goesBy Tryd.pinned.checked.prog := by kernel_rfl
theorem proved : Rows.IntegerArithmeticUptoCardSaid :=
  Claim7.holds_tied_plain_at .later [] _ _ _ _ over (fun _ h => by cases h) wft (fun _ h => by cases h) integerArithmeticUpto_row_tie rfl ⟨rfl, rfl⟩ mainIs rfl plain goes
end Go.Proofs.YtkbgdiejjabdmaaDoor.integerArithmetic
