/- The row of FnExactReadMachine: for every input that can be read, the call returns true and each argument reads behind it as it read before; it comes of the printed walk and the plain law. -/
import Derived.Test.YtlmdoapjcnaflaaDoorRows
import Derived.Test.YtlmdoapjcnaflaaDoorGLaidR
import Derived.Test.YtlmdoapjcnaflaaDoorCards
import Derived.Test.YtlmdoapjcnaflaaDoorTie
import Derived.LaidMore
import Derived.Lay
import Derived.Stop.Joined
import Derived.SevenTiedAt
import Derived.Test.YtlmdoapjcnaflaaDoorQ21
import Derived.Test.YtlmdoapjcnaflaaDoorGRow
import Derived.Test.YtlmdoapjcnaflaaDoorPureFnExactReadMachine
import Derived.Test.YtlmdoapjcnaflaaDoorGCells
import Derived.WalkKit
import Derived.ProofKit
import Derived.OpenShut
import Derived.ShutString
import Derived.ChangeOld
import Derived.Below
import Derived.SizedLaws
import Derived.Carry
import Derived.ChangeSlices
import Derived.Test.YtlmdoapjcnaflaaDoorVw
namespace Go.Proofs.YtlmdoapjcnaflaaDoor.Q
open Go.RowKit Go.Joins Go.ChangeShapes Go.WideShapes Go.Proofs.YtlmdoapjcnaflaaDoorW.PrintWords Go.Proofs.YtlmdoapjcnaflaaDoorW.PrintLast Go.Proofs.YtlmdoapjcnaflaaDoorW.PrintMore
namespace RowFnExactReadMachine
end RowFnExactReadMachine
end Go.Proofs.YtlmdoapjcnaflaaDoor.Q
namespace Go.Proofs.YtlmdoapjcnaflaaDoor.fnExactReadMachine
open Go.ChangeShapes Go.WideShapes Go.ChangeAt Go.RowKit Go.Proofs.YtlmdoapjcnaflaaDoor.Q Go.Proofs.YtlmdoapjcnaflaaDoor.Q.RowFnExactReadMachine Go.Proofs.YtlmdoapjcnaflaaDoorW.PrintWords Go.Proofs.YtlmdoapjcnaflaaDoorW.PrintLast
open Go.ChangeMaps (open_string shut_string)
set_option linter.unusedVariables false
theorem own : ownKnob Tryd.prog.godebug = none := by kernel_rfl
theorem laidOut : laidOutB Tryd.prog = true := by kernel_rfl
theorem door_met (os : Os) (args : Array Value) : laidMetH Tryd.prog Rows.fnExactReadMachineRow.laid ((World.laidAll Tryd.prog os Rows.fnExactReadMachineRow.laid).forCall (fun _ _ => 0) ⟨#[], args, []⟩).memory :=
  by rw [MakeChecks.laidMetH_plain _ _ _ (by kernel_rfl)]; exact laidMet_laidAll _ (by kernel_rfl) (by kernel_rfl)
set_option maxRecDepth 100000 in
theorem lifted (os : Os) (started : os.Started) (H : Type) (enc : TypeId × Value → H) :
    ReturnsInHanded {} Tryd.checked os 9 .any (fun w args => (Rows.fnExactReadMachineSpec.pre enc Tryd.prog Tryd.f9 [] false w args ∧ laidMetH Tryd.prog Rows.fnExactReadMachineRow.laid w) ∧ sizedMet enc Tryd.prog Tryd.f9 (OpenSpec.ofChange Rows.fnExactReadMachineSpec) false w args) (Rows.fnExactReadMachineSpec.post enc Tryd.prog Tryd.f9 false true false false) := by
  refine returnsInHanded_and_shaped (C := Tryd.checked) (X := fun w _ => laidMetH Tryd.prog Rows.fnExactReadMachineRow.laid w) (fun _ _ _ hh h => h.of_heap hh) own started (by kernel_rfl) Tryd.func9
    (ChangeSpec.witness_shaped (enc := enc) (C := Tryd.checked) (os := os) (X := fun w _ => laidMetH Tryd.prog Rows.fnExactReadMachineRow.laid w) false (World.laidAll Tryd.prog os Rows.fnExactReadMachineRow.laid) #[.string ByteArray.empty] 8 (World.laidAll_os _ _ _) (World.shaped_of_ZipB (by kernel_rfl) (by kernel_rfl)) (by kernel_rfl) (by kernel_rfl) (by kernel_rfl) (door_met os _)) ?_
  intro W base args ds gs before hval0 hW hcnd hsz0 hL hsh
  have hsz : (DataW.weightsEach Tryd.prog (Tryd.f9.params.toList ++ Rows.fnExactReadMachineSpec.plain.varTypes Tryd.prog) (ds ++ gs)).all (· ≤ reachBytes) = true := hsz0
  have hval : ∀ (j : Nat) t v, Tryd.f9.params[j]? = some t → args[j]? = some v → Value.okWide Tryd.prog W .any base t v := hval0
  have hW' := hW
  obtain ⟨p, q, hA0, hV, rfl, hfz, hnd⟩ := hW
  have hA : DataW.TrodAll enc Tryd.prog W 0 (fun _ => true) true Tryd.f9.params.toList args.toList ds p := hA0
  rw [Tryd.params9] at hA hval hsz
  obtain ⟨v0, vs0, d0, ds0, p0, q0, hargs, rfl, rfl, h0, r0⟩ := trodAll_cons hA
  obtain ⟨rfl, rfl, rfl⟩ := trodAll_nil r0
  obtain rfl : args = #[v0] := by cases args; simp_all
  obtain ⟨rfl, rfl⟩ := trodVars_none hV
  have k0 := h0
  have lt0 : ∀ x ∈ p0, x.block < W.heap.size := by obtain ⟨m, hm⟩ := k0; exact DataW.trod_lt m _ _ _ hm
  obtain ⟨a0, rfl, rfl, rfl, y0⟩ := open_string Tryd.underlying9 (hval 0 9 v0 rfl rfl) h0
  have w0 : a0.size ≤ 140737488351232 := by
    have z := sized_string hsz (j := 0) (t := 9) rfl rfl
    rw [Array.length_toList] at z
    exact z
  clear hA0 hval0 hsz0 hsz
  obtain ⟨k, hk⟩ := Pure.FnExactReadMachine a0 w0
  refine (laws_FnExactReadMachine.calls k a0 true W (libE_R7 hL) (libS_R7 hsh) (libT_R7 hL) hk).mono fun e W' ⟨he, bel⟩ => ?_
  subst he
  exact ⟨_, rfl, _, _, _, [], _, [], hW', trodAll_mk1 (shut_bool Tryd.underlying4 _), (trodAll_cons_mk (Below.trod laidOut (by kernel_rfl) (of_decide_eq_true (by kernel_rfl)) k0 bel lt0) trodAll_mk0), rfl, bel.frame _, fun h => by cases h⟩
theorem cell_0 : ((Rows.fnExactReadMachineRow).wf (OpenSpec.ofChange Rows.fnExactReadMachineSpec)) = true := by kernel_rfl
theorem cell_1 : (laidOutB Tryd.prog) = true := by kernel_rfl
theorem cell_2 : (mapsRowed Tryd.prog) = true := by kernel_rfl
theorem cell_3 : ((Tryd.f9).params.all (Tryd.prog.readableRec ·)) = true := by kernel_rfl
theorem cell_4 : (namedTie Tryd.prog (Rows.fnExactReadMachineRow).named (Rows.fnExactReadMachineSpec).vars) = true := by kernel_rfl
theorem cell_5 : (((Rows.fnExactReadMachineRow).stops == [])) = true := by kernel_rfl
theorem cell_6 : ((Tryd.prog.stops == [])) = true := by kernel_rfl
theorem cell_7 : (((Rows.fnExactReadMachineRow).knobs == [])) = true := by kernel_rfl
theorem cell_8 : ((Tryd.prog.stopKnobs == [])) = true := by kernel_rfl
theorem cell_9 : (((Rows.fnExactReadMachineRow).inPlace == Tryd.prog.inPlace 9)) = true := by kernel_rfl
theorem cell_10 : (((Rows.fnExactReadMachineRow).unfollowed == Tryd.prog.unfollowed 9)) = true := by kernel_rfl
theorem cell_11 : (((Rows.fnExactReadMachineRow).recurses == Tryd.prog.recurses 9)) = true := by kernel_rfl
theorem cell_12 : (((Rows.fnExactReadMachineRow).named == Tryd.prog.varsNamed 9)) = true := by kernel_rfl
theorem cell_13 : (((Rows.fnExactReadMachineRow).maps == ((Tryd.f9).params.toList ++ (Rows.fnExactReadMachineSpec).plain.varTypes Tryd.prog).any (Tryd.prog.mapsRec ·))) = true := by kernel_rfl
theorem cell_14 : (((Rows.fnExactReadMachineRow).ifaces == ((Tryd.f9).params.toList ++ (Rows.fnExactReadMachineSpec).plain.varTypes Tryd.prog).any (Tryd.prog.ifacesRec ·))) = true := by kernel_rfl
theorem cell_15 : (((Rows.fnExactReadMachineRow).mapsOut == Tryd.prog.mapsAmong (Tryd.f9).resultTypes.toList)) = true := by kernel_rfl
theorem cell_16 : (((Rows.fnExactReadMachineRow).loops == ((Tryd.f9).params.toList ++ (Rows.fnExactReadMachineSpec).plain.varTypes Tryd.prog).any (Tryd.prog.loopsFrom ·))) = true := by kernel_rfl
theorem cell_17 : (((Rows.fnExactReadMachineRow).wideKeys == ((Tryd.f9).params.toList ++ (Rows.fnExactReadMachineSpec).plain.varTypes Tryd.prog ++ (Tryd.f9).resultTypes.toList).any (Tryd.prog.wideKeysFrom ·))) = true := by kernel_rfl
theorem cell_18 : ((Rows.fnExactReadMachineSpec).vars.all (Tryd.prog.varReadable ·)) = true := by kernel_rfl
theorem cell_19 : ((Tryd.f9).resultTypes.all (fun t => Tryd.prog.readableRec t && decide (t < Tryd.prog.types.size))) = true := by kernel_rfl
theorem cell_20 : (((Rows.fnExactReadMachineRow).ifacesOut == (Tryd.f9).resultTypes.toList.any (Tryd.prog.ifacesRec ·))) = true := by kernel_rfl
theorem cell_21 : (((Rows.fnExactReadMachineRow).loopsOut == (Tryd.f9).resultTypes.toList.any (Tryd.prog.loopsFrom ·))) = true := by kernel_rfl
theorem cell_22 : (((Rows.fnExactReadMachineRow).plainKeys == Tryd.prog.plainKeys)) = true := by kernel_rfl
theorem cell_23 : ((Rows.fnExactReadMachineRow).shortTexts.isNone) = true := by kernel_rfl
theorem cell_24 : (Tryd.prog.stopsHeard) = true := by kernel_rfl
theorem cell_25 : (Tryd.prog.mayEnter) = true := cells_enter
theorem cell_26 : (((Rows.fnExactReadMachineRow).lifted == Tryd.prog.liftsFinal)) = true := by have e : (Rows.fnExactReadMachineRow).lifted = false := rfl; rw [e]; exact cells_lifts
theorem cell_27 : ((Tryd.prog.make == some (Rows.fnExactReadMachineRow).make)) = true := by have e : (Rows.fnExactReadMachineRow).make = Make.cut := rfl; rw [e]; exact cells_make
theorem cell_29 : (((Rows.fnExactReadMachineRow).pinned == (Rows.fnExactReadMachineRow).pinnedBy)) = true := by kernel_rfl
theorem cell_30 : (((Rows.fnExactReadMachineRow).veiled == ((Tryd.f9).params.toList ++ (Rows.fnExactReadMachineSpec).plain.varTypes Tryd.prog ++ (Tryd.f9).resultTypes.toList).any (Tryd.prog.veiledRec ·))) = true := by kernel_rfl
theorem cell_31 : ((Rows.fnExactReadMachineRow).veiledFits Tryd.prog (Tryd.f9).params.toList ((Tryd.f9).params.toList ++ (Rows.fnExactReadMachineSpec).plain.varTypes Tryd.prog ++ (Tryd.f9).resultTypes.toList)) = true := by kernel_rfl
theorem closed : joinedFacts Tryd.prog 9 Tryd.f9 Rows.fnExactReadMachineSpec Rows.fnExactReadMachineRow = true := by
  unfold joinedFacts
  with_reducible refine (band (band (band (band (band (band (band (band (band (band (band (band (band (band (band (band (band (band (band (band (band (band (band (band (band (band (band (band (band (band (band cell_0 cell_1) cell_2) cell_3) cell_4) cell_5) cell_6) cell_7) cell_8) cell_9) cell_10) cell_11) cell_12) cell_13) cell_14) cell_15) cell_16) cell_17) cell_18) cell_19) cell_20) cell_21) cell_22) cell_23) cell_24) cell_25) cell_26) cell_27) ?h28) cell_29) cell_30) cell_31)
  kernel_rfl
theorem over : Rows.fnExactReadMachineRow.holds Tryd.pinned (OpenSpec.ofChange Rows.fnExactReadMachineSpec) :=
  OpenClaim.holds_of_wide 9 Tryd.f9 rfl rfl rfl rfl rfl rfl rfl ⟨rfl, rfl, rfl, rfl, rfl⟩ rfl rfl rfl rfl rfl (by kernel_rfl) Tryd.func9 closed
    (of_decide_eq_true (by kernel_rfl)) (by unfold Func.isWrapper; first | (rw [if_pos (by decide +kernel)]; kernel_rfl) | (rw [if_neg (by decide +kernel)]; exact ⟨rfl, rfl⟩))
    (fun os started H enc _ => lifted os started H enc)
end Go.Proofs.YtlmdoapjcnaflaaDoor.fnExactReadMachine
namespace Go.Proofs.YtlmdoapjcnaflaaDoor
theorem fnExactReadMachine_row : Rows.FnExactReadMachineSaid := fnExactReadMachine.over
theorem fnExactReadMachine_params : Tryd.f9.params.toList.all (fun u => !Tryd.prog.wantsStandIn u) = true := by kernel_rfl
theorem fnExactReadMachine_holds : Rows.FnExactReadMachineCardSaid :=
  Claim7.holds_tied_plain_at .later [] [.data, .data, .data, .data, .sentinel, .sentinel, .pinned] true (true, "87a8fd45861a9ccb6b3a6cc8f5f09f9aa36f06efd4b3113846982b85e1f9e713") true
    fnExactReadMachine_row (fun _ h => by cases h) (by kernel_rfl) (fun _ h => by cases h) fnExactReadMachine_row_tie rfl ⟨rfl, rfl⟩ (by kernel_rfl) rfl
    (fun f fn hf hfn => by
      obtain rfl : f = 9 := Option.some.inj ((show Tryd.prog.funcNamed "loop.example/g01099/laws.FnExactReadMachine" = some 9 by kernel_rfl).symm.trans hf) |>.symm
      obtain rfl : fn = Tryd.f9 := (Option.some.inj (Tryd.func9.symm.trans hfn)).symm
      exact ⟨by kernel_rfl, fun j t ht => by
        have hm : t ∈ Tryd.f9.params.toList := by simpa using Array.mem_of_getElem? ht
        exact (show Tryd.prog.wantsStandIn t = false by simpa using List.all_eq_true.1 fnExactReadMachine_params t hm)⟩)
    (by kernel_rfl)
#print axioms fnExactReadMachine_holds
end Go.Proofs.YtlmdoapjcnaflaaDoor
