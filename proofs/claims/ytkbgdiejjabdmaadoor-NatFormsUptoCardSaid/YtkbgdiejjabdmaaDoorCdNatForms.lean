/- The row and the card of the law NatForms. -/
import Derived.Test.YtkbgdiejjabdmaaDoorNlForms
import Derived.Test.YtkbgdiejjabdmaaDoorOpD
import Derived.Test.YtkbgdiejjabdmaaDoorFac
import Derived.Test.YtkbgdiejjabdmaaDoorCards
import Derived.Test.YtkbgdiejjabdmaaDoorTie
import Derived.WalkKit
import Derived.ProofKit
import Derived.OpenShut
import Derived.Deep.DeepHandedRow
import Derived.LaidMore
import Derived.SevenTiedAt
namespace Go.Proofs.YtkbgdiejjabdmaaDoor.natForms
open Go.ChangeShapes Go.WideShapes Go.ChangeAt Go.RowKit

theorem own : ownKnob Tryd.prog.godebug = none := by kernel_rfl
theorem flat : flatB Tryd.prog [24, 78, 5] = true := by kernel_rfl
theorem laid_met (os : Os) : laidMet Tryd.prog Rows.natFormsUptoRow.laid ((World.doorLaid Tryd.prog 24 os).forCall (fun _ _ => 0) ⟨#[], #[.slice none 0 0, .slice none 0 0, .int .u8 0, .int .u8 0], []⟩).memory :=
  laidMet_of_run' 8 (by kernel_rfl) (by kernel_rfl)
theorem reads (os : Os) {H : Type} (enc : TypeId × Value → H) : ∃ places, DataW.whole enc Tryd.prog ((World.doorLaid Tryd.prog 24 os).forCall (fun _ _ => 0) ⟨#[], #[.slice none 0 0, .slice none 0 0, .int .u8 0, .int .u8 0], []⟩).memory Tryd.f11.params.toList (Rows.OpenSpec.upto Rows.natFormsSpec).vars false #[.slice none 0 0, .slice none 0 0, .int .u8 0, .int .u8 0].toList 8 = some ([.nil, .nil, .lit (.int .u8 0), .lit (.int .u8 0)], [], places) :=
  ⟨[], by kernel_rfl⟩

set_option maxRecDepth 100000 in
theorem lifted (os : Os) (started : os.Started) (H : Type) (enc : TypeId × Value → H) (F : Stop.Interp) :
    ReturnsInHanded {} Tryd.checked os 11 .any ((Rows.OpenSpec.upto Rows.natFormsSpec).preRow enc Tryd.prog Tryd.f11 Rows.natFormsUptoRow.domain false Rows.natFormsUptoRow.laid) (((Rows.OpenSpec.upto Rows.natFormsSpec).at F).post enc Tryd.prog Tryd.f11 false true false false) := by
  obtain ⟨places, hx⟩ := reads os enc
  refine returnsInHanded_of_row (C := Tryd.checked) (s := Rows.OpenSpec.upto Rows.natFormsSpec) own started (by kernel_rfl) Tryd.func11
    (witness_row_at (enc := enc) (C := Tryd.checked) false (World.doorLaid Tryd.prog 24 os) #[.slice none 0 0, .slice none 0 0, .int .u8 0, .int .u8 0] rfl (by kernel_rfl) (by kernel_rfl) (by kernel_rfl)
      (OpenSpec.preRow_of_cond 8 hx (by kernel_rfl) (fun k hk => by cases hk; kernel_rfl) (by kernel_rfl) (laid_met os))) ?_
  intro W base args ds gs before hval0 hW _ hcond0 _ hL _ _
  have hcond : Rows.uptoSmall H (ds ++ gs) = true := hcond0 _ rfl
  have hb := bulk_bound hcond
  clear hcond0 hcond
  have hval : ∀ (j : Nat) t v, Tryd.f11.params[j]? = some t → args[j]? = some v → Value.okWide Tryd.prog W .any base t v := hval0
  have hW' : DataW.Whole enc Tryd.prog Tryd.f11.params.toList Rows.natFormsSpec.vars false W args.toList ds gs before := hW
  have ht : Tab W := tab_of hL
  clear hL
  obtain ⟨p, q, hA0, hV, rfl, hfz, hnd⟩ := hW
  have hA : DataW.TrodAll enc Tryd.prog W 0 (fun _ => true) true Tryd.f11.params.toList args.toList ds p := hA0
  rw [Tryd.params11] at hA hval
  have hAA := hA
  obtain ⟨v0, vs0, d0, ds0, p0, q0, hargs0, rfl, rfl, h0, r0⟩ := trodAll_cons hA
  obtain ⟨v1, vs1, d1, ds1, p1, q1, hargs1, rfl, rfl, h1, r1⟩ := trodAll_cons r0
  obtain ⟨v2, vs2, d2, ds2, p2, q2, hargs2, rfl, rfl, h2, r2⟩ := trodAll_cons r1
  obtain ⟨v3, vs3, d3, ds3, p3, q3, hargs3, rfl, rfl, h3, r3⟩ := trodAll_cons r2
  obtain ⟨rfl, rfl, rfl⟩ := trodAll_nil r3
  obtain rfl : args = #[v0, v1, v2, v3] := by cases args; simp_all
  obtain ⟨rfl, rfl⟩ := trodVars_none hV
  simp only [List.append_nil, Rows.uptoBulkAll] at hb
  obtain ⟨fuel0, h0⟩ := h0
  obtain ⟨A0, l0, c0, n0, hc0, hn0, hl0⟩ := open_natb h0
  obtain ⟨A0', l0', c0', rfl⟩ := okWide_slice Tryd.underlying24 (hval 0 24 v0 rfl rfl)
  obtain ⟨rfl, rfl, rfl⟩ : A0' = A0 ∧ l0' = l0 ∧ c0' = c0 := by
    have h : [Value.slice A0' l0' c0'] = [Value.slice A0 l0 c0] := hc0
    simp only [List.cons.injEq, Value.slice.injEq, and_true] at h
    exact h
  simp only at hl0
  obtain ⟨fuel1, h1⟩ := h1
  obtain ⟨A1, l1, c1, n1, hc1, hn1, hl1⟩ := open_natb h1
  obtain ⟨A1', l1', c1', rfl⟩ := okWide_slice Tryd.underlying24 (hval 1 24 v1 rfl rfl)
  obtain ⟨rfl, rfl, rfl⟩ : A1' = A1 ∧ l1' = l1 ∧ c1' = c1 := by
    have h : [Value.slice A1' l1' c1'] = [Value.slice A1 l1 c1] := hc1
    simp only [List.cons.injEq, Value.slice.injEq, and_true] at h
    exact h
  simp only at hl1
  obtain ⟨x2, rfl, rfl, rfl, hw2⟩ := Go.ChangeShapes.open_int Tryd.underlying5 (hval 2 5 v2 rfl rfl) h2
  have hx2 : 0 ≤ x2 ∧ x2 ≤ 255 := by
    simp only [Lit.wf, Bool.and_eq_true, decide_eq_true_eq] at hw2
    exact hw2
  obtain ⟨x3, rfl, rfl, rfl, hw3⟩ := Go.ChangeShapes.open_int Tryd.underlying5 (hval 3 5 v3 rfl rfl) h3
  have hx3 : 0 ≤ x3 ∧ x3 ≤ 255 := by
    simp only [Lit.wf, Bool.and_eq_true, decide_eq_true_eq] at hw3
    exact hw3
  clear hA0 hval0
  simp only [List.append_nil] at hW'
  refine (natforms_law W ht (hn0.le (by omega)) (hn1.le (by omega)) hx2.1 hx2.2 hx3.1 hx3.2).mono fun e W' ⟨he, hg⟩ => ?_
  subst he
  have hlt := hW'.lt
  exact ⟨_, rfl, _, _, _, [], _, [], hW', trodAll_cons_mk (shut_bool Tryd.underlying4 _) trodAll_mk0, trodAll_grow flat (Below.block hg) (fun b => decide (b < W.heap.size)) _ _ _ _ (by decide) hAA (fun x hx => by have h := hlt x (by simpa using hx); simpa using h), rfl, Below.frame hg _, fun h => by cases h⟩

theorem j_wf : Rows.natFormsUptoRow.wf (_root_.Go.OpenSpec.ofChange (Rows.OpenSpec.upto Rows.natFormsSpec).bare) = true := by kernel_rfl
theorem j_params : Tryd.f11.params.all (Tryd.pinned.checked.prog.readableRec ·) = true := by kernel_rfl
theorem j_tie : namedTie Tryd.pinned.checked.prog Rows.natFormsUptoRow.named (Rows.OpenSpec.upto Rows.natFormsSpec).bare.vars = true := by kernel_rfl
theorem j_st : (Rows.natFormsUptoRow.stops == []) = true := by kernel_rfl
theorem j_kn : (Rows.natFormsUptoRow.knobs == []) = true := by kernel_rfl
theorem j_inp : (Rows.natFormsUptoRow.inPlace == Tryd.pinned.checked.prog.inPlace 11) = true := by kernel_rfl
theorem j_unf : (Rows.natFormsUptoRow.unfollowed == Tryd.pinned.checked.prog.unfollowed 11) = true := by kernel_rfl
theorem j_rec : (Rows.natFormsUptoRow.recurses == Tryd.pinned.checked.prog.recurses 11) = true := by kernel_rfl
theorem j_nam : (Rows.natFormsUptoRow.named == Tryd.pinned.checked.prog.varsNamed 11) = true := by kernel_rfl
theorem j_map : (Rows.natFormsUptoRow.maps == (Tryd.f11.params.toList ++ (Rows.OpenSpec.upto Rows.natFormsSpec).bare.plain.varTypes Tryd.pinned.checked.prog).any (Tryd.pinned.checked.prog.mapsRec ·)) = true := by kernel_rfl
theorem j_ifa : (Rows.natFormsUptoRow.ifaces == (Tryd.f11.params.toList ++ (Rows.OpenSpec.upto Rows.natFormsSpec).bare.plain.varTypes Tryd.pinned.checked.prog).any (Tryd.pinned.checked.prog.ifacesRec ·)) = true := by kernel_rfl
theorem j_mao : (Rows.natFormsUptoRow.mapsOut == Tryd.pinned.checked.prog.mapsAmong Tryd.f11.resultTypes.toList) = true := by kernel_rfl
theorem j_loo : (Rows.natFormsUptoRow.loops == (Tryd.f11.params.toList ++ (Rows.OpenSpec.upto Rows.natFormsSpec).bare.plain.varTypes Tryd.pinned.checked.prog).any (Tryd.pinned.checked.prog.loopsFrom ·)) = true := by kernel_rfl
theorem j_wid : (Rows.natFormsUptoRow.wideKeys == (Tryd.f11.params.toList ++ (Rows.OpenSpec.upto Rows.natFormsSpec).bare.plain.varTypes Tryd.pinned.checked.prog ++ Tryd.f11.resultTypes.toList).any (Tryd.pinned.checked.prog.wideKeysFrom ·)) = true := by kernel_rfl
theorem j_vrs : (Rows.OpenSpec.upto Rows.natFormsSpec).bare.vars.all (Tryd.pinned.checked.prog.varReadable ·) = true := by kernel_rfl
theorem j_res : Tryd.f11.resultTypes.all (fun t => Tryd.pinned.checked.prog.readableRec t && decide (t < Tryd.pinned.checked.prog.types.size)) = true := by kernel_rfl
theorem j_ifo : (Rows.natFormsUptoRow.ifacesOut == Tryd.f11.resultTypes.toList.any (Tryd.pinned.checked.prog.ifacesRec ·)) = true := by kernel_rfl
theorem j_lpo : (Rows.natFormsUptoRow.loopsOut == Tryd.f11.resultTypes.toList.any (Tryd.pinned.checked.prog.loopsFrom ·)) = true := by kernel_rfl
theorem j_plk : (Rows.natFormsUptoRow.plainKeys == Tryd.pinned.checked.prog.plainKeys) = true := by kernel_rfl
theorem j_sho : Rows.natFormsUptoRow.shortTexts.isNone = true := by kernel_rfl
theorem j_lif : (Rows.natFormsUptoRow.lifted == Tryd.pinned.checked.prog.liftsFinal) = true := Facts.lif
theorem j_mak : (Tryd.pinned.checked.prog.make == some Rows.natFormsUptoRow.make) = true := Facts.mak
theorem j_kin : (Rows.natFormsUptoRow.kinds == (if Rows.natFormsUptoRow.domain.isEmpty then [] else Tryd.f11.params.toList.map fun t => match Tryd.pinned.checked.prog.underlying t with | some (.int k) => some k | _ => none)) = true := by kernel_rfl
theorem j_pin : (Rows.natFormsUptoRow.pinned == Rows.natFormsUptoRow.pinnedBy) = true := by kernel_rfl
theorem j_vei : (Rows.natFormsUptoRow.veiled == (Tryd.f11.params.toList ++ (Rows.OpenSpec.upto Rows.natFormsSpec).bare.plain.varTypes Tryd.pinned.checked.prog ++ Tryd.f11.resultTypes.toList).any (Tryd.pinned.checked.prog.veiledRec ·)) = true := by kernel_rfl
theorem j_vef : Rows.natFormsUptoRow.veiledFits Tryd.pinned.checked.prog Tryd.f11.params.toList (Tryd.f11.params.toList ++ (Rows.OpenSpec.upto Rows.natFormsSpec).bare.plain.varTypes Tryd.pinned.checked.prog ++ Tryd.f11.resultTypes.toList) = true := by kernel_rfl
set_option maxRecDepth 100000 in
theorem joined : joinedFacts Tryd.pinned.checked.prog 11 Tryd.f11 (Rows.OpenSpec.upto Rows.natFormsSpec).bare Rows.natFormsUptoRow = true := joined_of j_wf Facts.P1 Facts.P2 j_params j_tie j_st Facts.P3 j_kn Facts.P4 j_inp j_unf j_rec j_nam j_map j_ifa j_mao j_loo j_wid j_vrs j_res j_ifo j_lpo j_plk j_sho Facts.P5 Facts.P6 j_lif j_mak j_kin j_pin j_vei j_vef
theorem fnamed : Tryd.pinned.checked.prog.funcNamed "examboard/examboardlaw01.NatForms" = some 11 := by kernel_rfl
theorem inst : Tryd.f11.isInstance Tryd.pinned.checked.prog Rows.natFormsUptoRow.origin Rows.natFormsUptoRow.targs := of_decide_eq_true (by kernel_rfl)
theorem wrap : Tryd.f11.isWrapper Tryd.pinned.checked.prog Rows.natFormsUptoRow.wrapper Rows.natFormsUptoRow.mainSum := by unfold Func.isWrapper; first | (rw [if_pos (by decide +kernel)]; kernel_rfl) | (rw [if_neg (by decide +kernel)]; exact ⟨rfl, rfl⟩)
theorem over : Rows.NatFormsUptoSaid :=
  OpenClaim.holds_of_cond 11 Tryd.f11 rfl rfl rfl rfl rfl rfl rfl ⟨rfl, rfl, rfl, rfl, rfl⟩ rfl rfl rfl rfl rfl fnamed Tryd.func11 joined inst wrap
    (fun os started H enc _ F => by rw [OpenClaim.pre_eq_preRow]; exact lifted os started H enc F)
theorem looks : false = Tryd.pinned.checked.prog.looks [] := by kernel_rfl
theorem stand : ([24, 24, 5, 5].all fun u => !Tryd.prog.wantsStandIn u) = true := by kernel_rfl
theorem plain (f : FuncId) (fn : Func) (hf : Tryd.pinned.checked.prog.funcNamed "examboard/examboardlaw01.NatForms" = some f) (hfn : Tryd.pinned.checked.prog.funcs[f]? = some fn) :
    false = Tryd.pinned.checked.prog.looks [] ∧ ∀ (j : Nat) t, fn.params[j]? = some t → Tryd.pinned.checked.prog.wantsStandIn t = false := by
  obtain rfl : f = 11 := Option.some.inj (fnamed.symm.trans hf) |>.symm
  obtain rfl : fn = Tryd.f11 := (Option.some.inj (Tryd.func11.symm.trans hfn)).symm
  refine ⟨looks, fun j t ht => ?_⟩
  rw [Tryd.params11] at ht
  have hm : t ∈ [24, 24, 5, 5] := by simpa using Array.mem_of_getElem? ht
  exact (show Tryd.prog.wantsStandIn t = false by simpa using List.all_eq_true.1 stand t hm)
theorem wft : Rows.natFormsUptoRow.wfByText (Rows.OpenSpec.upto Rows.natFormsSpec) = true := by kernel_rfl
theorem mainIs : Tryd.pinned.checked.prog.mainIs = some (Rows.natFormsUptoCard.stood.harness.1, Rows.natFormsUptoCard.stood.harness.2.toList) := Facts.mainIs
theorem goes : false = Rows.natFormsUptoRow.goesBy Tryd.pinned.checked.prog := by kernel_rfl
theorem proved : Rows.NatFormsUptoCardSaid :=
  Claim7.holds_tied_plain_at .later [] _ _ _ _ over (fun _ h => by cases h) wft (fun _ h => by cases h) natFormsUpto_row_tie rfl ⟨rfl, rfl⟩ mainIs rfl plain goes
end Go.Proofs.YtkbgdiejjabdmaaDoor.natForms
