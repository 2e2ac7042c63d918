/- The row of FnExactRootFloor: for every input that can be read, the call returns true and each argument reads behind it as it read before; it comes of the printed walk and the plain law. -/
import Derived.Test.YtpcekncfdcofhaaRows
import Derived.Test.YtpcekncfdcofhaaQ3
import Derived.Test.YtpcekncfdcofhaaGRow
import Derived.Test.YtpcekncfdcofhaaPureFnExactRootFloor
import Derived.Test.YtpcekncfdcofhaaGCells
import Derived.WalkKit
import Derived.ProofKit
import Derived.OpenShut
import Derived.ShutString
import Derived.ChangeOld
import Derived.Below
import Derived.SizedLaws
import Derived.Carry
import Derived.ChangeSlices
import Derived.Test.YtpcekncfdcofhaaWSized
namespace Go.Proofs.Ytpcekncfdcofhaa.Q
open Go.RowKit Go.Joins Go.ChangeShapes Go.WideShapes Go.Proofs.YtpcekncfdcofhaaW.PrintWords Go.Proofs.YtpcekncfdcofhaaW.PrintLast Go.Proofs.YtpcekncfdcofhaaW.PrintMore
namespace RowFnExactRootFloor
end RowFnExactRootFloor
end Go.Proofs.Ytpcekncfdcofhaa.Q
namespace Go.Proofs.Ytpcekncfdcofhaa.fnExactRootFloor
open Go.ChangeShapes Go.WideShapes Go.ChangeAt Go.RowKit Go.Proofs.Ytpcekncfdcofhaa.Q Go.Proofs.Ytpcekncfdcofhaa.Q.RowFnExactRootFloor Go.Proofs.YtpcekncfdcofhaaW.PrintWords Go.Proofs.YtpcekncfdcofhaaW.PrintLast
open Go.ChangeMaps (open_string shut_string)
set_option linter.unusedVariables false
theorem own : ownKnob Try.prog.godebug = none := by kernel_rfl
theorem laidOut : laidOutB Try.prog = true := by kernel_rfl
set_option maxRecDepth 100000 in
theorem lifted (os : Os) (started : os.Started) (H : Type) (enc : TypeId × Value → H) :
    ReturnsInHanded {} Try.checked os 3 .any (Rows.fnExactRootFloorSpec.pre6 enc Try.prog Try.f3 Rows.fnExactRootFloorRow.domain false) (Rows.fnExactRootFloorSpec.post enc Try.prog Try.f3 false true false false) := by
  refine returnsInHanded_of_change_sized (C := Try.checked) own started (by kernel_rfl) Try.func3
    (ChangeSpec.witness6 (enc := enc) (C := Try.checked) false ⟨#[], #[.int .i64 0], []⟩ 8 (by kernel_rfl) (by kernel_rfl) (by kernel_rfl) (by kernel_rfl)) ?_
  intro W base args ds gs before hval0 hW hcnd hsz0 _
  have hsz : (DataW.weightsEach Try.prog (Try.f3.params.toList ++ Rows.fnExactRootFloorSpec.plain.varTypes Try.prog) (ds ++ gs)).all (· ≤ reachBytes) = true := hsz0
  have hval : ∀ (j : Nat) t v, Try.f3.params[j]? = some t → args[j]? = some v → Value.okWide Try.prog W .any base t v := hval0
  have hW' := hW
  obtain ⟨p, q, hA0, hV, rfl, hfz, hnd⟩ := hW
  have hA : DataW.TrodAll enc Try.prog W 0 (fun _ => true) true Try.f3.params.toList args.toList ds p := hA0
  rw [Try.params3] at hA hval hsz
  obtain ⟨v0, vs0, d0, ds0, p0, q0, hargs, rfl, rfl, h0, r0⟩ := trodAll_cons hA
  obtain ⟨rfl, rfl, rfl⟩ := trodAll_nil r0
  obtain rfl : args = #[v0] := by cases args; simp_all
  obtain ⟨rfl, rfl⟩ := trodVars_none hV
  have k0 := h0
  have lt0 : ∀ x ∈ p0, x.block < W.heap.size := by obtain ⟨m, hm⟩ := k0; exact DataW.trod_lt m _ _ _ hm
  obtain ⟨a0, rfl, rfl, rfl, w0⟩ := open_int Try.underlying2 (hval 0 2 v0 rfl rfl) h0
  clear hA0 hval0 hsz0 hsz
  obtain ⟨k, hk⟩ := Pure.FnExactRootFloor a0 w0
  refine (laws_FnExactRootFloor.calls k a0 true W hk).mono fun e W' ⟨he, bel0⟩ => ?_
  have bel := bel0.below
  subst he
  exact ⟨_, rfl, _, _, _, [], _, [], hW', trodAll_mk1 (shut_bool Try.underlying4 _), (trodAll_cons_mk (Below.trod laidOut (by kernel_rfl) (of_decide_eq_true (by kernel_rfl)) k0 bel lt0) trodAll_mk0), rfl, bel.frame _, fun h => by cases h⟩
theorem cell_0 : ((Rows.fnExactRootFloorRow).wf (OpenSpec.ofChange Rows.fnExactRootFloorSpec)) = true := by kernel_rfl
theorem cell_1 : (laidOutB Try.prog) = true := by kernel_rfl
theorem cell_2 : (mapsRowed Try.prog) = true := by kernel_rfl
theorem cell_3 : ((Try.f3).params.all (Try.prog.readableRec ·)) = true := by kernel_rfl
theorem cell_4 : (namedTie Try.prog (Rows.fnExactRootFloorRow).named (Rows.fnExactRootFloorSpec).vars) = true := by kernel_rfl
theorem cell_5 : (((Rows.fnExactRootFloorRow).stops == [])) = true := by kernel_rfl
theorem cell_6 : ((Try.prog.stops == [])) = true := by kernel_rfl
theorem cell_7 : (((Rows.fnExactRootFloorRow).knobs == [])) = true := by kernel_rfl
theorem cell_8 : ((Try.prog.stopKnobs == [])) = true := by kernel_rfl
theorem cell_9 : (((Rows.fnExactRootFloorRow).inPlace == Try.prog.inPlace 3)) = true := by kernel_rfl
theorem cell_10 : (((Rows.fnExactRootFloorRow).unfollowed == Try.prog.unfollowed 3)) = true := by kernel_rfl
theorem cell_11 : (((Rows.fnExactRootFloorRow).recurses == Try.prog.recurses 3)) = true := by kernel_rfl
theorem cell_12 : (((Rows.fnExactRootFloorRow).named == Try.prog.varsNamed 3)) = true := by kernel_rfl
theorem cell_13 : (((Rows.fnExactRootFloorRow).maps == ((Try.f3).params.toList ++ (Rows.fnExactRootFloorSpec).plain.varTypes Try.prog).any (Try.prog.mapsRec ·))) = true := by kernel_rfl
theorem cell_14 : (((Rows.fnExactRootFloorRow).ifaces == ((Try.f3).params.toList ++ (Rows.fnExactRootFloorSpec).plain.varTypes Try.prog).any (Try.prog.ifacesRec ·))) = true := by kernel_rfl
theorem cell_15 : (((Rows.fnExactRootFloorRow).mapsOut == Try.prog.mapsAmong (Try.f3).resultTypes.toList)) = true := by kernel_rfl
theorem cell_16 : (((Rows.fnExactRootFloorRow).loops == ((Try.f3).params.toList ++ (Rows.fnExactRootFloorSpec).plain.varTypes Try.prog).any (Try.prog.loopsFrom ·))) = true := by kernel_rfl
theorem cell_17 : (((Rows.fnExactRootFloorRow).wideKeys == ((Try.f3).params.toList ++ (Rows.fnExactRootFloorSpec).plain.varTypes Try.prog ++ (Try.f3).resultTypes.toList).any (Try.prog.wideKeysFrom ·))) = true := by kernel_rfl
theorem cell_18 : ((Rows.fnExactRootFloorSpec).vars.all (Try.prog.varReadable ·)) = true := by kernel_rfl
theorem cell_19 : ((Try.f3).resultTypes.all (fun t => Try.prog.readableRec t && decide (t < Try.prog.types.size))) = true := by kernel_rfl
theorem cell_20 : (((Rows.fnExactRootFloorRow).ifacesOut == (Try.f3).resultTypes.toList.any (Try.prog.ifacesRec ·))) = true := by kernel_rfl
theorem cell_21 : (((Rows.fnExactRootFloorRow).loopsOut == (Try.f3).resultTypes.toList.any (Try.prog.loopsFrom ·))) = true := by kernel_rfl
theorem cell_22 : (((Rows.fnExactRootFloorRow).plainKeys == Try.prog.plainKeys)) = true := by kernel_rfl
theorem cell_23 : ((Rows.fnExactRootFloorRow).shortTexts.isNone) = true := by kernel_rfl
theorem cell_24 : (Try.prog.stopsHeard) = true := by kernel_rfl
theorem cell_25 : (Try.prog.mayEnter) = true := cells_enter
theorem cell_26 : (((Rows.fnExactRootFloorRow).lifted == Try.prog.liftsFinal)) = true := by have e : (Rows.fnExactRootFloorRow).lifted = false := rfl; rw [e]; exact cells_lifts
theorem cell_27 : ((Try.prog.make == some (Rows.fnExactRootFloorRow).make)) = true := by have e : (Rows.fnExactRootFloorRow).make = Make.cut := rfl; rw [e]; exact cells_make
theorem cell_29 : (((Rows.fnExactRootFloorRow).pinned == (Rows.fnExactRootFloorRow).pinnedBy)) = true := by kernel_rfl
theorem cell_30 : (((Rows.fnExactRootFloorRow).veiled == ((Try.f3).params.toList ++ (Rows.fnExactRootFloorSpec).plain.varTypes Try.prog ++ (Try.f3).resultTypes.toList).any (Try.prog.veiledRec ·))) = true := by kernel_rfl
theorem cell_31 : ((Rows.fnExactRootFloorRow).veiledFits Try.prog (Try.f3).params.toList ((Try.f3).params.toList ++ (Rows.fnExactRootFloorSpec).plain.varTypes Try.prog ++ (Try.f3).resultTypes.toList)) = true := by kernel_rfl
theorem closed : joinedFacts Try.prog 3 Try.f3 Rows.fnExactRootFloorSpec Rows.fnExactRootFloorRow = true := by
  unfold joinedFacts
  with_reducible refine (band (band (band (band (band (band (band (band (band (band (band (band (band (band (band (band (band (band (band (band (band (band (band (band (band (band (band (band (band (band (band cell_0 cell_1) cell_2) cell_3) cell_4) cell_5) cell_6) cell_7) cell_8) cell_9) cell_10) cell_11) cell_12) cell_13) cell_14) cell_15) cell_16) cell_17) cell_18) cell_19) cell_20) cell_21) cell_22) cell_23) cell_24) cell_25) cell_26) cell_27) ?h28) cell_29) cell_30) cell_31)
  kernel_rfl
theorem over : Rows.fnExactRootFloorRow.holds Try.pinned (OpenSpec.ofChange Rows.fnExactRootFloorSpec) :=
  OpenClaim.holds_of_wide 3 Try.f3 rfl rfl rfl rfl rfl rfl rfl ⟨rfl, rfl, rfl, rfl, rfl⟩ rfl rfl rfl rfl rfl (by kernel_rfl) Try.func3 closed
    (of_decide_eq_true (by kernel_rfl)) (by unfold Func.isWrapper; first | (rw [if_pos (by decide +kernel)]; kernel_rfl) | (rw [if_neg (by decide +kernel)]; exact ⟨rfl, rfl⟩))
    (fun os started H enc _ => lifted os started H enc)
end Go.Proofs.Ytpcekncfdcofhaa.fnExactRootFloor
namespace Go.Proofs.Ytpcekncfdcofhaa
theorem fnExactRootFloor_holds : Rows.FnExactRootFloorSaid := fnExactRootFloor.over
#print axioms fnExactRootFloor_holds
end Go.Proofs.Ytpcekncfdcofhaa
