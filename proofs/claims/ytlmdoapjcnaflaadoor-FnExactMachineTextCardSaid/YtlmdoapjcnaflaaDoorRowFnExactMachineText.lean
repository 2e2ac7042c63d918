/- The row of FnExactMachineText: for every input that can be read, the call returns true and each argument reads behind it as it read before; it comes of the printed walk and the plain law. -/
import Derived.Test.YtlmdoapjcnaflaaDoorRows
import Derived.Test.YtlmdoapjcnaflaaDoorGLaidW
import Derived.Test.YtlmdoapjcnaflaaDoorCards
import Derived.Test.YtlmdoapjcnaflaaDoorTie
import Derived.LaidMore
import Derived.Stop.Joined
import Derived.SevenTiedAt
import Derived.Test.YtlmdoapjcnaflaaDoorQ14
import Derived.Test.YtlmdoapjcnaflaaDoorGRow
import Derived.Test.YtlmdoapjcnaflaaDoorPureFnExactMachineText
import Derived.Test.YtlmdoapjcnaflaaDoorGCells
import Derived.WalkKit
import Derived.ProofKit
import Derived.OpenShut
import Derived.ShutString
import Derived.ChangeOld
import Derived.Below
import Derived.SizedLaws
import Derived.Carry
import Derived.ChangeSlices
import Derived.Test.YtlmdoapjcnaflaaDoorWSized
namespace Go.Proofs.YtlmdoapjcnaflaaDoor.Q
open Go.RowKit Go.Joins Go.ChangeShapes Go.WideShapes Go.Proofs.YtlmdoapjcnaflaaDoorW.PrintWords Go.Proofs.YtlmdoapjcnaflaaDoorW.PrintLast Go.Proofs.YtlmdoapjcnaflaaDoorW.PrintMore
namespace RowFnExactMachineText
theorem row_num2 : NumTy Tryd.prog 2 1 := num_int Tryd.underlying2
theorem row_num31 : NumTy Tryd.prog 31 4 := num_struct4 (n0 := 1) (n1 := 1) (n2 := 1) (n3 := 1) Tryd.underlying31 (by kernel_rfl) rfl rfl rfl rfl (by kernel_rfl) (by kernel_rfl) (by kernel_rfl) (by kernel_rfl) row_num2 row_num2 row_num2 row_num2
theorem row_num33 : NumTy Tryd.prog 33 9 := num_struct3 (n0 := 4) (n1 := 4) (n2 := 1) Tryd.underlying33 (by kernel_rfl) rfl rfl rfl (by kernel_rfl) (by kernel_rfl) (by kernel_rfl) row_num31 row_num31 row_num2
end RowFnExactMachineText
end Go.Proofs.YtlmdoapjcnaflaaDoor.Q
namespace Go.Proofs.YtlmdoapjcnaflaaDoor.fnExactMachineText
open Go.ChangeShapes Go.WideShapes Go.ChangeAt Go.RowKit Go.Proofs.YtlmdoapjcnaflaaDoor.Q Go.Proofs.YtlmdoapjcnaflaaDoor.Q.RowFnExactMachineText Go.Proofs.YtlmdoapjcnaflaaDoorW.PrintWords Go.Proofs.YtlmdoapjcnaflaaDoorW.PrintLast
open Go.ChangeMaps (open_string shut_string)
set_option linter.unusedVariables false
theorem own : ownKnob Tryd.prog.godebug = none := by kernel_rfl
theorem laidOut : laidOutB Tryd.prog = true := by kernel_rfl
theorem door_met (os : Os) (args : Array Value) : laidMetH Tryd.prog Rows.fnExactMachineTextRow.laid ((World.doorLaid Tryd.prog 72 os).forCall (fun _ _ => 0) ⟨#[], args, []⟩).memory :=
  laidMetH_of_parts3 (fuel := 8) (laidMet_of_run' 8 (by kernel_rfl) (by kernel_rfl)) (by kernel_rfl) (by kernel_rfl)
set_option maxRecDepth 100000 in
theorem lifted (os : Os) (started : os.Started) (H : Type) (enc : TypeId × Value → H) :
    ReturnsInHanded {} Tryd.checked os 5 .any (fun w args => (Rows.fnExactMachineTextSpec.pre enc Tryd.prog Tryd.f5 [] false w args ∧ laidMetH Tryd.prog Rows.fnExactMachineTextRow.laid w) ∧ sizedMet enc Tryd.prog Tryd.f5 (OpenSpec.ofChange Rows.fnExactMachineTextSpec) false w args) (Rows.fnExactMachineTextSpec.post enc Tryd.prog Tryd.f5 false true false false) := by
  refine returnsInHanded_of_change_and (C := Tryd.checked) (X := fun w _ => laidMetH Tryd.prog Rows.fnExactMachineTextRow.laid w) (fun _ _ _ hh h => h.of_heap hh) own started (by kernel_rfl) Tryd.func5
    (ChangeSpec.witness_shaped (enc := enc) (C := Tryd.checked) (os := os) (X := fun w _ => laidMetH Tryd.prog Rows.fnExactMachineTextRow.laid w) false (World.doorLaid Tryd.prog 72 os) #[.agg #[.int .i64 0, .int .i64 0, .int .i64 0, .int .i64 0, .int .i64 0, .int .i64 0, .int .i64 0, .int .i64 0, .int .i64 0]] 8 rfl (World.shaped_of_RefB (by kernel_rfl) (by kernel_rfl)) (by kernel_rfl) (by kernel_rfl) (by kernel_rfl) (door_met os _)) ?_
  intro W base args ds gs before hval0 hW hcnd hsz0 hL hsh
  have hsz : (DataW.weightsEach Tryd.prog (Tryd.f5.params.toList ++ Rows.fnExactMachineTextSpec.plain.varTypes Tryd.prog) (ds ++ gs)).all (· ≤ reachBytes) = true := hsz0
  have hval : ∀ (j : Nat) t v, Tryd.f5.params[j]? = some t → args[j]? = some v → Value.okWide Tryd.prog W .any base t v := hval0
  have hW' := hW
  obtain ⟨p, q, hA0, hV, rfl, hfz, hnd⟩ := hW
  have hA : DataW.TrodAll enc Tryd.prog W 0 (fun _ => true) true Tryd.f5.params.toList args.toList ds p := hA0
  rw [Tryd.params5] at hA hval hsz
  obtain ⟨v0, vs0, d0, ds0, p0, q0, hargs, rfl, rfl, h0, r0⟩ := trodAll_cons hA
  obtain ⟨rfl, rfl, rfl⟩ := trodAll_nil r0
  obtain rfl : args = #[v0] := by cases args; simp_all
  obtain ⟨rfl, rfl⟩ := trodVars_none hV
  have k0 := h0
  have lt0 : ∀ x ∈ p0, x.block < W.heap.size := by obtain ⟨m, hm⟩ := k0; exact DataW.trod_lt m _ _ _ hm
  obtain ⟨zs0, rfl, zl0, zw0⟩ := open_nums row_num33 Tryd.underlying33 (hval 0 33 v0 rfl rfl) h0
  obtain ⟨a0_0, a0_1, a0_2, a0_3, a0_4, a0_5, a0_6, a0_7, a0_8, rfl, w0_0, w0_1, w0_2, w0_3, w0_4, w0_5, w0_6, w0_7, w0_8⟩ := nums9 zl0 zw0
  clear hA0 hval0 hsz0 hsz
  obtain ⟨k, hk⟩ := Pure.FnExactMachineText a0_0 a0_1 a0_2 a0_3 a0_4 a0_5 a0_6 a0_7 a0_8 w0_0 w0_1 w0_2 w0_3 w0_4 w0_5 w0_6 w0_7 w0_8
  refine (laws_FnExactMachineText.calls k a0_0 a0_1 a0_2 a0_3 a0_4 a0_5 a0_6 a0_7 a0_8 true W (libT_W hL) hk).mono fun e W' ⟨he, bel⟩ => ?_
  subst he
  exact ⟨_, rfl, _, _, _, [], _, [], hW', trodAll_mk1 (shut_bool Tryd.underlying4 _), (trodAll_cons_mk (Below.trod laidOut (by kernel_rfl) (of_decide_eq_true (by kernel_rfl)) k0 bel lt0) trodAll_mk0), rfl, bel.frame _, fun h => by cases h⟩
theorem cell_0 : ((Rows.fnExactMachineTextRow).wf (OpenSpec.ofChange Rows.fnExactMachineTextSpec)) = true := by kernel_rfl
theorem cell_1 : (laidOutB Tryd.prog) = true := by kernel_rfl
theorem cell_2 : (mapsRowed Tryd.prog) = true := by kernel_rfl
theorem cell_3 : ((Tryd.f5).params.all (Tryd.prog.readableRec ·)) = true := by kernel_rfl
theorem cell_4 : (namedTie Tryd.prog (Rows.fnExactMachineTextRow).named (Rows.fnExactMachineTextSpec).vars) = true := by kernel_rfl
theorem cell_5 : (((Rows.fnExactMachineTextRow).stops == [])) = true := by kernel_rfl
theorem cell_6 : ((Tryd.prog.stops == [])) = true := by kernel_rfl
theorem cell_7 : (((Rows.fnExactMachineTextRow).knobs == [])) = true := by kernel_rfl
theorem cell_8 : ((Tryd.prog.stopKnobs == [])) = true := by kernel_rfl
theorem cell_9 : (((Rows.fnExactMachineTextRow).inPlace == Tryd.prog.inPlace 5)) = true := by kernel_rfl
theorem cell_10 : (((Rows.fnExactMachineTextRow).unfollowed == Tryd.prog.unfollowed 5)) = true := by kernel_rfl
theorem cell_11 : (((Rows.fnExactMachineTextRow).recurses == Tryd.prog.recurses 5)) = true := by kernel_rfl
theorem cell_12 : (((Rows.fnExactMachineTextRow).named == Tryd.prog.varsNamed 5)) = true := by kernel_rfl
theorem cell_13 : (((Rows.fnExactMachineTextRow).maps == ((Tryd.f5).params.toList ++ (Rows.fnExactMachineTextSpec).plain.varTypes Tryd.prog).any (Tryd.prog.mapsRec ·))) = true := by kernel_rfl
theorem cell_14 : (((Rows.fnExactMachineTextRow).ifaces == ((Tryd.f5).params.toList ++ (Rows.fnExactMachineTextSpec).plain.varTypes Tryd.prog).any (Tryd.prog.ifacesRec ·))) = true := by kernel_rfl
theorem cell_15 : (((Rows.fnExactMachineTextRow).mapsOut == Tryd.prog.mapsAmong (Tryd.f5).resultTypes.toList)) = true := by kernel_rfl
theorem cell_16 : (((Rows.fnExactMachineTextRow).loops == ((Tryd.f5).params.toList ++ (Rows.fnExactMachineTextSpec).plain.varTypes Tryd.prog).any (Tryd.prog.loopsFrom ·))) = true := by kernel_rfl
theorem cell_17 : (((Rows.fnExactMachineTextRow).wideKeys == ((Tryd.f5).params.toList ++ (Rows.fnExactMachineTextSpec).plain.varTypes Tryd.prog ++ (Tryd.f5).resultTypes.toList).any (Tryd.prog.wideKeysFrom ·))) = true := by kernel_rfl
theorem cell_18 : ((Rows.fnExactMachineTextSpec).vars.all (Tryd.prog.varReadable ·)) = true := by kernel_rfl
theorem cell_19 : ((Tryd.f5).resultTypes.all (fun t => Tryd.prog.readableRec t && decide (t < Tryd.prog.types.size))) = true := by kernel_rfl
theorem cell_20 : (((Rows.fnExactMachineTextRow).ifacesOut == (Tryd.f5).resultTypes.toList.any (Tryd.prog.ifacesRec ·))) = true := by kernel_rfl
theorem cell_21 : (((Rows.fnExactMachineTextRow).loopsOut == (Tryd.f5).resultTypes.toList.any (Tryd.prog.loopsFrom ·))) = true := by kernel_rfl
theorem cell_22 : (((Rows.fnExactMachineTextRow).plainKeys == Tryd.prog.plainKeys)) = true := by kernel_rfl
theorem cell_23 : ((Rows.fnExactMachineTextRow).shortTexts.isNone) = true := by kernel_rfl
theorem cell_24 : (Tryd.prog.stopsHeard) = true := by kernel_rfl
theorem cell_25 : (Tryd.prog.mayEnter) = true := cells_enter
theorem cell_26 : (((Rows.fnExactMachineTextRow).lifted == Tryd.prog.liftsFinal)) = true := by have e : (Rows.fnExactMachineTextRow).lifted = false := rfl; rw [e]; exact cells_lifts
theorem cell_27 : ((Tryd.prog.make == some (Rows.fnExactMachineTextRow).make)) = true := by have e : (Rows.fnExactMachineTextRow).make = Make.cut := rfl; rw [e]; exact cells_make
theorem cell_29 : (((Rows.fnExactMachineTextRow).pinned == (Rows.fnExactMachineTextRow).pinnedBy)) = true := by kernel_rfl
theorem cell_30 : (((Rows.fnExactMachineTextRow).veiled == ((Tryd.f5).params.toList ++ (Rows.fnExactMachineTextSpec).plain.varTypes Tryd.prog ++ (Tryd.f5).resultTypes.toList).any (Tryd.prog.veiledRec ·))) = true := by kernel_rfl
theorem cell_31 : ((Rows.fnExactMachineTextRow).veiledFits Tryd.prog (Tryd.f5).params.toList ((Tryd.f5).params.toList ++ (Rows.fnExactMachineTextSpec).plain.varTypes Tryd.prog ++ (Tryd.f5).resultTypes.toList)) = true := by kernel_rfl
theorem closed : joinedFacts Tryd.prog 5 Tryd.f5 Rows.fnExactMachineTextSpec Rows.fnExactMachineTextRow = true := by
  unfold joinedFacts
  with_reducible refine (band (band (band (band (band (band (band (band (band (band (band (band (band (band (band (band (band (band (band (band (band (band (band (band (band (band (band (band (band (band (band cell_0 cell_1) cell_2) cell_3) cell_4) cell_5) cell_6) cell_7) cell_8) cell_9) cell_10) cell_11) cell_12) cell_13) cell_14) cell_15) cell_16) cell_17) cell_18) cell_19) cell_20) cell_21) cell_22) cell_23) cell_24) cell_25) cell_26) cell_27) ?h28) cell_29) cell_30) cell_31)
  kernel_rfl
theorem over : Rows.fnExactMachineTextRow.holds Tryd.pinned (OpenSpec.ofChange Rows.fnExactMachineTextSpec) :=
  OpenClaim.holds_of_wide 5 Tryd.f5 rfl rfl rfl rfl rfl rfl rfl ⟨rfl, rfl, rfl, rfl, rfl⟩ rfl rfl rfl rfl rfl (by kernel_rfl) Tryd.func5 closed
    (of_decide_eq_true (by kernel_rfl)) (by unfold Func.isWrapper; first | (rw [if_pos (by decide +kernel)]; kernel_rfl) | (rw [if_neg (by decide +kernel)]; exact ⟨rfl, rfl⟩))
    (fun os started H enc _ => lifted os started H enc)
end Go.Proofs.YtlmdoapjcnaflaaDoor.fnExactMachineText
namespace Go.Proofs.YtlmdoapjcnaflaaDoor
theorem fnExactMachineText_row : Rows.FnExactMachineTextSaid := fnExactMachineText.over
theorem fnExactMachineText_params : Tryd.f5.params.toList.all (fun u => !Tryd.prog.wantsStandIn u) = true := by kernel_rfl
theorem fnExactMachineText_holds : Rows.FnExactMachineTextCardSaid :=
  Claim7.holds_tied_plain_at .later [] [.data, .data, .data] true (true, "87a8fd45861a9ccb6b3a6cc8f5f09f9aa36f06efd4b3113846982b85e1f9e713") true
    fnExactMachineText_row (fun _ h => by cases h) (by kernel_rfl) (fun _ h => by cases h) fnExactMachineText_row_tie rfl ⟨rfl, rfl⟩ (by kernel_rfl) rfl
    (fun f fn hf hfn => by
      obtain rfl : f = 5 := Option.some.inj ((show Tryd.prog.funcNamed "loop.example/g01099/laws.FnExactMachineText" = some 5 by kernel_rfl).symm.trans hf) |>.symm
      obtain rfl : fn = Tryd.f5 := (Option.some.inj (Tryd.func5.symm.trans hfn)).symm
      exact ⟨by kernel_rfl, fun j t ht => by
        have hm : t ∈ Tryd.f5.params.toList := by simpa using Array.mem_of_getElem? ht
        exact (show Tryd.prog.wantsStandIn t = false by simpa using List.all_eq_true.1 fnExactMachineText_params t hm)⟩)
    (by kernel_rfl)
#print axioms fnExactMachineText_holds
end Go.Proofs.YtlmdoapjcnaflaaDoor
