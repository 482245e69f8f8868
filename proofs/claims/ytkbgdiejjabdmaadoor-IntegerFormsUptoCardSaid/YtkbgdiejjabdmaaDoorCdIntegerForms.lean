/- The row and the card of the law IntegerForms. -/
import Derived.Test.YtkbgdiejjabdmaaDoorZlForms
import Derived.Test.YtkbgdiejjabdmaaDoorOpD
import Derived.Test.YtkbgdiejjabdmaaDoorFac
import Derived.Test.YtkbgdiejjabdmaaDoorCards
import Derived.Test.YtkbgdiejjabdmaaDoorTie
import Derived.WalkKit
import Derived.ProofKit
import Derived.OpenShut
import Derived.Deep.DeepHandedRow
import Derived.LaidMore
import Derived.SevenTiedAt
namespace Go.Proofs.YtkbgdiejjabdmaaDoor.integerForms
open Go.ChangeShapes Go.WideShapes Go.ChangeAt Go.RowKit

theorem own : ownKnob Tryd.prog.godebug = none := by kernel_rfl
theorem flat : flatB Tryd.prog [2, 51, 24, 78, 4] = true := by kernel_rfl
theorem laid_met (os : Os) : laidMet Tryd.prog Rows.integerFormsUptoRow.laid ((World.doorLaid Tryd.prog 24 os).forCall (fun _ _ => 0) ⟨#[], #[.int .i64 0, .agg #[.bool false, .slice none 0 0]], []⟩).memory :=
  laidMet_of_run' 8 (by kernel_rfl) (by kernel_rfl)
theorem reads (os : Os) {H : Type} (enc : TypeId × Value → H) : ∃ places, DataW.whole enc Tryd.prog ((World.doorLaid Tryd.prog 24 os).forCall (fun _ _ => 0) ⟨#[], #[.int .i64 0, .agg #[.bool false, .slice none 0 0]], []⟩).memory Tryd.f14.params.toList (Rows.OpenSpec.upto Rows.integerFormsSpec).vars false #[.int .i64 0, .agg #[.bool false, .slice none 0 0]].toList 8 = some ([.lit (.int .i64 0), .agg [.lit (.bool false), .nil]], [], places) :=
  ⟨[], by kernel_rfl⟩

set_option maxRecDepth 100000 in
theorem lifted (os : Os) (started : os.Started) (H : Type) (enc : TypeId × Value → H) (F : Stop.Interp) :
    ReturnsInHanded {} Tryd.checked os 14 .any ((Rows.OpenSpec.upto Rows.integerFormsSpec).preRow enc Tryd.prog Tryd.f14 Rows.integerFormsUptoRow.domain false Rows.integerFormsUptoRow.laid) (((Rows.OpenSpec.upto Rows.integerFormsSpec).at F).post enc Tryd.prog Tryd.f14 false true false false) := by
  obtain ⟨places, hx⟩ := reads os enc
  refine returnsInHanded_of_row (C := Tryd.checked) (s := Rows.OpenSpec.upto Rows.integerFormsSpec) own started (by kernel_rfl) Tryd.func14
    (witness_row_at (enc := enc) (C := Tryd.checked) false (World.doorLaid Tryd.prog 24 os) #[.int .i64 0, .agg #[.bool false, .slice none 0 0]] rfl (by kernel_rfl) (by kernel_rfl) (by kernel_rfl)
      (OpenSpec.preRow_of_cond 8 hx (by kernel_rfl) (fun k hk => by cases hk; kernel_rfl) (by kernel_rfl) (laid_met os))) ?_
  intro W base args ds gs before hval0 hW _ hcond0 _ hL _ _
  have hcond : Rows.uptoSmall H (ds ++ gs) = true := hcond0 _ rfl
  have hb := bulk_bound hcond
  clear hcond0 hcond
  have hval : ∀ (j : Nat) t v, Tryd.f14.params[j]? = some t → args[j]? = some v → Value.okWide Tryd.prog W .any base t v := hval0
  have hW' : DataW.Whole enc Tryd.prog Tryd.f14.params.toList Rows.integerFormsSpec.vars false W args.toList ds gs before := hW
  have ht : Tab W := tab_of hL
  clear hL
  obtain ⟨p, q, hA0, hV, rfl, hfz, hnd⟩ := hW
  have hA : DataW.TrodAll enc Tryd.prog W 0 (fun _ => true) true Tryd.f14.params.toList args.toList ds p := hA0
  rw [Tryd.params14] at hA hval
  have hAA := hA
  obtain ⟨v0, vs0, d0, ds0, p0, q0, hargs0, rfl, rfl, h0, r0⟩ := trodAll_cons hA
  obtain ⟨v1, vs1, d1, ds1, p1, q1, hargs1, rfl, rfl, h1, r1⟩ := trodAll_cons r0
  obtain ⟨rfl, rfl, rfl⟩ := trodAll_nil r1
  obtain rfl : args = #[v0, v1] := by cases args; simp_all
  obtain ⟨rfl, rfl⟩ := trodVars_none hV
  simp only [List.append_nil, Rows.uptoBulkAll] at hb
  obtain ⟨x0, rfl, rfl, rfl, hw0⟩ := Go.ChangeShapes.open_int Tryd.underlying2 (hval 0 2 v0 rfl rfl) h0
  have hx0 : -9223372036854775808 ≤ x0 ∧ x0 ≤ 9223372036854775807 := by
    simp only [Lit.wf, Bool.and_eq_true, decide_eq_true_eq] at hw0
    exact hw0
  obtain ⟨cs1, rfl, _⟩ := okWide_struct Tryd.underlying51 (hval 1 51 v1 rfl rfl)
  obtain ⟨fuel1, h1⟩ := h1
  obtain ⟨s1, A1, l1, c1, n1, hc1, hn1, hl1⟩ := open_intb h1
  obtain rfl : cs1 = #[.bool s1, .slice A1 l1 c1] := by
    have h : cs1.toList = [.bool s1, .slice A1 l1 c1] := hc1
    rw [← Array.toArray_toList (xs := cs1), h]
  simp only at hl1
  clear hA0 hval0
  simp only [List.append_nil] at hW'
  refine (integerforms_law W ht hx0.1 hx0.2 (hn1.le (by omega))).mono fun e W' ⟨he, hg⟩ => ?_
  subst he
  have hlt := hW'.lt
  exact ⟨_, rfl, _, _, _, [], _, [], hW', trodAll_cons_mk (shut_bool Tryd.underlying4 _) trodAll_mk0, trodAll_grow flat (Below.block hg) (fun b => decide (b < W.heap.size)) _ _ _ _ (by decide) hAA (fun x hx => by have h := hlt x (by simpa using hx); simpa using h), rfl, Below.frame hg _, fun h => by cases h⟩

theorem j_wf : Rows.integerFormsUptoRow.wf (_root_.Go.OpenSpec.ofChange (Rows.OpenSpec.upto Rows.integerFormsSpec).bare) = true := by kernel_rfl
theorem j_params : Tryd.f14.params.all (Tryd.pinned.checked.prog.readableRec ·) = true := by kernel_rfl
theorem j_tie : namedTie Tryd.pinned.checked.prog Rows.integerFormsUptoRow.named (Rows.OpenSpec.upto Rows.integerFormsSpec).bare.vars = true := by kernel_rfl
theorem j_st : (Rows.integerFormsUptoRow.stops == []) = true := by kernel_rfl
theorem j_kn : (Rows.integerFormsUptoRow.knobs == []) = true := by kernel_rfl
theorem j_inp : (Rows.integerFormsUptoRow.inPlace == Tryd.pinned.checked.prog.inPlace 14) = true := by kernel_rfl
theorem j_unf : (Rows.integerFormsUptoRow.unfollowed == Tryd.pinned.checked.prog.unfollowed 14) = true := by kernel_rfl
theorem j_rec : (Rows.integerFormsUptoRow.recurses == Tryd.pinned.checked.prog.recurses 14) = true := by kernel_rfl
theorem j_nam : (Rows.integerFormsUptoRow.named == Tryd.pinned.checked.prog.varsNamed 14) = true := by kernel_rfl
theorem j_map : (Rows.integerFormsUptoRow.maps == (Tryd.f14.params.toList ++ (Rows.OpenSpec.upto Rows.integerFormsSpec).bare.plain.varTypes Tryd.pinned.checked.prog).any (Tryd.pinned.checked.prog.mapsRec ·)) = true := by kernel_rfl
theorem j_ifa : (Rows.integerFormsUptoRow.ifaces == (Tryd.f14.params.toList ++ (Rows.OpenSpec.upto Rows.integerFormsSpec).bare.plain.varTypes Tryd.pinned.checked.prog).any (Tryd.pinned.checked.prog.ifacesRec ·)) = true := by kernel_rfl
theorem j_mao : (Rows.integerFormsUptoRow.mapsOut == Tryd.pinned.checked.prog.mapsAmong Tryd.f14.resultTypes.toList) = true := by kernel_rfl
theorem j_loo : (Rows.integerFormsUptoRow.loops == (Tryd.f14.params.toList ++ (Rows.OpenSpec.upto Rows.integerFormsSpec).bare.plain.varTypes Tryd.pinned.checked.prog).any (Tryd.pinned.checked.prog.loopsFrom ·)) = true := by kernel_rfl
theorem j_wid : (Rows.integerFormsUptoRow.wideKeys == (Tryd.f14.params.toList ++ (Rows.OpenSpec.upto Rows.integerFormsSpec).bare.plain.varTypes Tryd.pinned.checked.prog ++ Tryd.f14.resultTypes.toList).any (Tryd.pinned.checked.prog.wideKeysFrom ·)) = true := by kernel_rfl
theorem j_vrs : (Rows.OpenSpec.upto Rows.integerFormsSpec).bare.vars.all (Tryd.pinned.checked.prog.varReadable ·) = true := by kernel_rfl
theorem j_res : Tryd.f14.resultTypes.all (fun t => Tryd.pinned.checked.prog.readableRec t && decide (t < Tryd.pinned.checked.prog.types.size)) = true := by kernel_rfl
theorem j_ifo : (Rows.integerFormsUptoRow.ifacesOut == Tryd.f14.resultTypes.toList.any (Tryd.pinned.checked.prog.ifacesRec ·)) = true := by kernel_rfl
theorem j_lpo : (Rows.integerFormsUptoRow.loopsOut == Tryd.f14.resultTypes.toList.any (Tryd.pinned.checked.prog.loopsFrom ·)) = true := by kernel_rfl
theorem j_plk : (Rows.integerFormsUptoRow.plainKeys == Tryd.pinned.checked.prog.plainKeys) = true := by kernel_rfl
theorem j_sho : Rows.integerFormsUptoRow.shortTexts.isNone = true := by kernel_rfl
theorem j_lif : (Rows.integerFormsUptoRow.lifted == Tryd.pinned.checked.prog.liftsFinal) = true := Facts.lif
theorem j_mak : (Tryd.pinned.checked.prog.make == some Rows.integerFormsUptoRow.make) = true := Facts.mak
theorem j_kin : (Rows.integerFormsUptoRow.kinds == (if Rows.integerFormsUptoRow.domain.isEmpty then [] else Tryd.f14.params.toList.map fun t => match Tryd.pinned.checked.prog.underlying t with | some (.int k) => some k | _ => none)) = true := by kernel_rfl
theorem j_pin : (Rows.integerFormsUptoRow.pinned == Rows.integerFormsUptoRow.pinnedBy) = true := by kernel_rfl
theorem j_vei : (Rows.integerFormsUptoRow.veiled == (Tryd.f14.params.toList ++ (Rows.OpenSpec.upto Rows.integerFormsSpec).bare.plain.varTypes Tryd.pinned.checked.prog ++ Tryd.f14.resultTypes.toList).any (Tryd.pinned.checked.prog.veiledRec ·)) = true := by kernel_rfl
theorem j_vef : Rows.integerFormsUptoRow.veiledFits Tryd.pinned.checked.prog Tryd.f14.params.toList (Tryd.f14.params.toList ++ (Rows.OpenSpec.upto Rows.integerFormsSpec).bare.plain.varTypes Tryd.pinned.checked.prog ++ Tryd.f14.resultTypes.toList) = true := by kernel_rfl
set_option maxRecDepth 100000 in
theorem joined : joinedFacts Tryd.pinned.checked.prog 14 Tryd.f14 (Rows.OpenSpec.upto Rows.integerFormsSpec).bare Rows.integerFormsUptoRow = true := joined_of j_wf Facts.P1 Facts.P2 j_params j_tie j_st Facts.P3 j_kn Facts.P4 j_inp j_unf j_rec j_nam j_map j_ifa j_mao j_loo j_wid j_vrs j_res j_ifo j_lpo j_plk j_sho Facts.P5 Facts.P6 j_lif j_mak j_kin j_pin j_vei j_vef
theorem fnamed : Tryd.pinned.checked.prog.funcNamed "examboard/examboardlaw02.IntegerForms" = some 14 := by kernel_rfl
theorem inst : Tryd.f14.isInstance Tryd.pinned.checked.prog Rows.integerFormsUptoRow.origin Rows.integerFormsUptoRow.targs := of_decide_eq_true (by kernel_rfl)
theorem wrap : Tryd.f14.isWrapper Tryd.pinned.checked.prog Rows.integerFormsUptoRow.wrapper Rows.integerFormsUptoRow.mainSum := by unfold Func.isWrapper; first | (rw [if_pos (by decide +kernel)]; kernel_rfl) | (rw [if_neg (by decide +kernel)]; exact ⟨rfl, rfl⟩)
theorem over : Rows.IntegerFormsUptoSaid :=
  OpenClaim.holds_of_cond 14 Tryd.f14 rfl rfl rfl rfl rfl rfl rfl ⟨rfl, rfl, rfl, rfl, rfl⟩ rfl rfl rfl rfl rfl fnamed Tryd.func14 joined inst wrap
    (fun os started H enc _ F => by rw [OpenClaim.pre_eq_preRow]; exact lifted os started H enc F)
theorem looks : false = Tryd.pinned.checked.prog.looks [] := by kernel_rfl
theorem stand : ([2, 51].all fun u => !Tryd.prog.wantsStandIn u) = true := by kernel_rfl
theorem plain (f : FuncId) (fn : Func) (hf : Tryd.pinned.checked.prog.funcNamed "examboard/examboardlaw02.IntegerForms" = some f) (hfn : Tryd.pinned.checked.prog.funcs[f]? = some fn) :
    false = Tryd.pinned.checked.prog.looks [] ∧ ∀ (j : Nat) t, fn.params[j]? = some t → Tryd.pinned.checked.prog.wantsStandIn t = false := by
  obtain rfl : f = 14 := Option.some.inj (fnamed.symm.trans hf) |>.symm
  obtain rfl : fn = Tryd.f14 := (Option.some.inj (Tryd.func14.symm.trans hfn)).symm
  refine ⟨looks, fun j t ht => ?_⟩
  rw [Tryd.params14] at ht
  have hm : t ∈ [2, 51] := by simpa using Array.mem_of_getElem? ht
  exact (show Tryd.prog.wantsStandIn t = false by simpa using List.all_eq_true.1 stand t hm)
theorem wft : Rows.integerFormsUptoRow.wfByText (Rows.OpenSpec.upto Rows.integerFormsSpec) = true := by kernel_rfl
theorem mainIs : Tryd.pinned.checked.prog.mainIs = some (Rows.integerFormsUptoCard.stood.harness.1, Rows.integerFormsUptoCard.stood.harness.2.toList) := Facts.mainIs
theorem goes : false = Rows.integerFormsUptoRow.goesBy Tryd.pinned.checked.prog := by kernel_rfl
theorem proved : Rows.IntegerFormsUptoCardSaid :=
  Claim7.holds_tied_plain_at .later [] _ _ _ _ over (fun _ h => by cases h) wft (fun _ h => by cases h) integerFormsUpto_row_tie rfl ⟨rfl, rfl⟩ mainIs rfl plain goes
end Go.Proofs.YtkbgdiejjabdmaaDoor.integerForms
