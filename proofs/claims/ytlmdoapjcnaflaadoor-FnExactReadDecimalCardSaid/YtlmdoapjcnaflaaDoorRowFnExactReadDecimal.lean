/- The row of FnExactReadDecimal: for every input that can be read, the call returns true and each argument reads behind it as it read before; it comes of the printed walk and the plain law. -/
import Derived.Test.YtlmdoapjcnaflaaDoorRows
import Derived.Test.YtlmdoapjcnaflaaDoorGLaidR
import Derived.Test.YtlmdoapjcnaflaaDoorCards
import Derived.Test.YtlmdoapjcnaflaaDoorTie
import Derived.LaidMore
import Derived.Stop.Joined
import Derived.SevenTiedAt
import Derived.Test.YtlmdoapjcnaflaaDoorQ16
import Derived.Test.YtlmdoapjcnaflaaDoorGRow
import Derived.Test.YtlmdoapjcnaflaaDoorPureFnExactReadDecimal
import Derived.Test.YtlmdoapjcnaflaaDoorGCells
import Derived.WalkKit
import Derived.ProofKit
import Derived.OpenShut
import Derived.ShutString
import Derived.ChangeOld
import Derived.Below
import Derived.SizedLaws
import Derived.Carry
import Derived.ChangeSlices
import Derived.Test.YtlmdoapjcnaflaaDoorWSized
namespace Go.Proofs.YtlmdoapjcnaflaaDoor.Q
open Go.RowKit Go.Joins Go.ChangeShapes Go.WideShapes Go.Proofs.YtlmdoapjcnaflaaDoorW.PrintWords Go.Proofs.YtlmdoapjcnaflaaDoorW.PrintLast Go.Proofs.YtlmdoapjcnaflaaDoorW.PrintMore
namespace RowFnExactReadDecimal
end RowFnExactReadDecimal
end Go.Proofs.YtlmdoapjcnaflaaDoor.Q
namespace Go.Proofs.YtlmdoapjcnaflaaDoor.fnExactReadDecimal
open Go.ChangeShapes Go.WideShapes Go.ChangeAt Go.RowKit Go.Proofs.YtlmdoapjcnaflaaDoor.Q Go.Proofs.YtlmdoapjcnaflaaDoor.Q.RowFnExactReadDecimal Go.Proofs.YtlmdoapjcnaflaaDoorW.PrintWords Go.Proofs.YtlmdoapjcnaflaaDoorW.PrintLast
open Go.ChangeMaps (open_string shut_string)
set_option linter.unusedVariables false
theorem own : ownKnob Tryd.prog.godebug = none := by kernel_rfl
theorem laidOut : laidOutB Tryd.prog = true := by kernel_rfl
theorem door_met (os : Os) (args : Array Value) : laidMetH Tryd.prog Rows.fnExactReadDecimalRow.laid ((World.doorLaid Tryd.prog 72 os).forCall (fun _ _ => 0) ⟨#[], args, []⟩).memory :=
  laidMetH_of_parts3 (fuel := 8) (laidMet_of_run' 8 (by kernel_rfl) (by kernel_rfl)) (by kernel_rfl) (by kernel_rfl)
set_option maxRecDepth 100000 in
theorem lifted (os : Os) (started : os.Started) (H : Type) (enc : TypeId × Value → H) :
    ReturnsInHanded {} Tryd.checked os 7 .any (fun w args => (Rows.fnExactReadDecimalSpec.pre enc Tryd.prog Tryd.f7 [] false w args ∧ laidMetH Tryd.prog Rows.fnExactReadDecimalRow.laid w) ∧ sizedMet enc Tryd.prog Tryd.f7 (OpenSpec.ofChange Rows.fnExactReadDecimalSpec) false w args) (Rows.fnExactReadDecimalSpec.post enc Tryd.prog Tryd.f7 false true false false) := by
  refine returnsInHanded_of_change_and (C := Tryd.checked) (X := fun w _ => laidMetH Tryd.prog Rows.fnExactReadDecimalRow.laid w) (fun _ _ _ hh h => h.of_heap hh) own started (by kernel_rfl) Tryd.func7
    (ChangeSpec.witness_shaped (enc := enc) (C := Tryd.checked) (os := os) (X := fun w _ => laidMetH Tryd.prog Rows.fnExactReadDecimalRow.laid w) false (World.doorLaid Tryd.prog 72 os) #[.string ByteArray.empty] 8 rfl (World.shaped_of_RefB (by kernel_rfl) (by kernel_rfl)) (by kernel_rfl) (by kernel_rfl) (by kernel_rfl) (door_met os _)) ?_
  intro W base args ds gs before hval0 hW hcnd hsz0 hL hsh
  have hsz : (DataW.weightsEach Tryd.prog (Tryd.f7.params.toList ++ Rows.fnExactReadDecimalSpec.plain.varTypes Tryd.prog) (ds ++ gs)).all (· ≤ reachBytes) = true := hsz0
  have hval : ∀ (j : Nat) t v, Tryd.f7.params[j]? = some t → args[j]? = some v → Value.okWide Tryd.prog W .any base t v := hval0
  have hW' := hW
  obtain ⟨p, q, hA0, hV, rfl, hfz, hnd⟩ := hW
  have hA : DataW.TrodAll enc Tryd.prog W 0 (fun _ => true) true Tryd.f7.params.toList args.toList ds p := hA0
  rw [Tryd.params7] at hA hval hsz
  obtain ⟨v0, vs0, d0, ds0, p0, q0, hargs, rfl, rfl, h0, r0⟩ := trodAll_cons hA
  obtain ⟨rfl, rfl, rfl⟩ := trodAll_nil r0
  obtain rfl : args = #[v0] := by cases args; simp_all
  obtain ⟨rfl, rfl⟩ := trodVars_none hV
  have k0 := h0
  have lt0 : ∀ x ∈ p0, x.block < W.heap.size := by obtain ⟨m, hm⟩ := k0; exact DataW.trod_lt m _ _ _ hm
  obtain ⟨a0, rfl, rfl, rfl, y0⟩ := open_string Tryd.underlying9 (hval 0 9 v0 rfl rfl) h0
  have w0 : a0.size ≤ 140737488351232 := by
    have z := sized_string hsz (j := 0) (t := 9) rfl rfl
    rw [Array.length_toList] at z
    exact z
  clear hA0 hval0 hsz0 hsz
  obtain ⟨k, hk⟩ := Pure.FnExactReadDecimal a0 w0
  refine (laws_FnExactReadDecimal.calls k a0 true W (libE_R5 hL) (libT_R5 hL) hk).mono fun e W' ⟨he, bel⟩ => ?_
  subst he
  exact ⟨_, rfl, _, _, _, [], _, [], hW', trodAll_mk1 (shut_bool Tryd.underlying4 _), (trodAll_cons_mk (Below.trod laidOut (by kernel_rfl) (of_decide_eq_true (by kernel_rfl)) k0 bel lt0) trodAll_mk0), rfl, bel.frame _, fun h => by cases h⟩
theorem cell_0 : ((Rows.fnExactReadDecimalRow).wf (OpenSpec.ofChange Rows.fnExactReadDecimalSpec)) = true := by kernel_rfl
theorem cell_1 : (laidOutB Tryd.prog) = true := by kernel_rfl
theorem cell_2 : (mapsRowed Tryd.prog) = true := by kernel_rfl
theorem cell_3 : ((Tryd.f7).params.all (Tryd.prog.readableRec ·)) = true := by kernel_rfl
theorem cell_4 : (namedTie Tryd.prog (Rows.fnExactReadDecimalRow).named (Rows.fnExactReadDecimalSpec).vars) = true := by kernel_rfl
theorem cell_5 : (((Rows.fnExactReadDecimalRow).stops == [])) = true := by kernel_rfl
theorem cell_6 : ((Tryd.prog.stops == [])) = true := by kernel_rfl
theorem cell_7 : (((Rows.fnExactReadDecimalRow).knobs == [])) = true := by kernel_rfl
theorem cell_8 : ((Tryd.prog.stopKnobs == [])) = true := by kernel_rfl
theorem cell_9 : (((Rows.fnExactReadDecimalRow).inPlace == Tryd.prog.inPlace 7)) = true := by kernel_rfl
theorem cell_10 : (((Rows.fnExactReadDecimalRow).unfollowed == Tryd.prog.unfollowed 7)) = true := by kernel_rfl
theorem cell_11 : (((Rows.fnExactReadDecimalRow).recurses == Tryd.prog.recurses 7)) = true := by kernel_rfl
theorem cell_12 : (((Rows.fnExactReadDecimalRow).named == Tryd.prog.varsNamed 7)) = true := by kernel_rfl
theorem cell_13 : (((Rows.fnExactReadDecimalRow).maps == ((Tryd.f7).params.toList ++ (Rows.fnExactReadDecimalSpec).plain.varTypes Tryd.prog).any (Tryd.prog.mapsRec ·))) = true := by kernel_rfl
theorem cell_14 : (((Rows.fnExactReadDecimalRow).ifaces == ((Tryd.f7).params.toList ++ (Rows.fnExactReadDecimalSpec).plain.varTypes Tryd.prog).any (Tryd.prog.ifacesRec ·))) = true := by kernel_rfl
theorem cell_15 : (((Rows.fnExactReadDecimalRow).mapsOut == Tryd.prog.mapsAmong (Tryd.f7).resultTypes.toList)) = true := by kernel_rfl
theorem cell_16 : (((Rows.fnExactReadDecimalRow).loops == ((Tryd.f7).params.toList ++ (Rows.fnExactReadDecimalSpec).plain.varTypes Tryd.prog).any (Tryd.prog.loopsFrom ·))) = true := by kernel_rfl
theorem cell_17 : (((Rows.fnExactReadDecimalRow).wideKeys == ((Tryd.f7).params.toList ++ (Rows.fnExactReadDecimalSpec).plain.varTypes Tryd.prog ++ (Tryd.f7).resultTypes.toList).any (Tryd.prog.wideKeysFrom ·))) = true := by kernel_rfl
theorem cell_18 : ((Rows.fnExactReadDecimalSpec).vars.all (Tryd.prog.varReadable ·)) = true := by kernel_rfl
theorem cell_19 : ((Tryd.f7).resultTypes.all (fun t => Tryd.prog.readableRec t && decide (t < Tryd.prog.types.size))) = true := by kernel_rfl
theorem cell_20 : (((Rows.fnExactReadDecimalRow).ifacesOut == (Tryd.f7).resultTypes.toList.any (Tryd.prog.ifacesRec ·))) = true := by kernel_rfl
theorem cell_21 : (((Rows.fnExactReadDecimalRow).loopsOut == (Tryd.f7).resultTypes.toList.any (Tryd.prog.loopsFrom ·))) = true := by kernel_rfl
theorem cell_22 : (((Rows.fnExactReadDecimalRow).plainKeys == Tryd.prog.plainKeys)) = true := by kernel_rfl
theorem cell_23 : ((Rows.fnExactReadDecimalRow).shortTexts.isNone) = true := by kernel_rfl
theorem cell_24 : (Tryd.prog.stopsHeard) = true := by kernel_rfl
theorem cell_25 : (Tryd.prog.mayEnter) = true := cells_enter
theorem cell_26 : (((Rows.fnExactReadDecimalRow).lifted == Tryd.prog.liftsFinal)) = true := by have e : (Rows.fnExactReadDecimalRow).lifted = false := rfl; rw [e]; exact cells_lifts
theorem cell_27 : ((Tryd.prog.make == some (Rows.fnExactReadDecimalRow).make)) = true := by have e : (Rows.fnExactReadDecimalRow).make = Make.cut := rfl; rw [e]; exact cells_make
theorem cell_29 : (((Rows.fnExactReadDecimalRow).pinned == (Rows.fnExactReadDecimalRow).pinnedBy)) = true := by kernel_rfl
theorem cell_30 : (((Rows.fnExactReadDecimalRow).veiled == ((Tryd.f7).params.toList ++ (Rows.fnExactReadDecimalSpec).plain.varTypes Tryd.prog ++ (Tryd.f7).resultTypes.toList).any (Tryd.prog.veiledRec ·))) = true := by kernel_rfl
theorem cell_31 : ((Rows.fnExactReadDecimalRow).veiledFits Tryd.prog (Tryd.f7).params.toList ((Tryd.f7).params.toList ++ (Rows.fnExactReadDecimalSpec).plain.varTypes Tryd.prog ++ (Tryd.f7).resultTypes.toList)) = true := by kernel_rfl
theorem closed : joinedFacts Tryd.prog 7 Tryd.f7 Rows.fnExactReadDecimalSpec Rows.fnExactReadDecimalRow = true := by
  unfold joinedFacts
  with_reducible refine (band (band (band (band (band (band (band (band (band (band (band (band (band (band (band (band (band (band (band (band (band (band (band (band (band (band (band (band (band (band (band cell_0 cell_1) cell_2) cell_3) cell_4) cell_5) cell_6) cell_7) cell_8) cell_9) cell_10) cell_11) cell_12) cell_13) cell_14) cell_15) cell_16) cell_17) cell_18) cell_19) cell_20) cell_21) cell_22) cell_23) cell_24) cell_25) cell_26) cell_27) ?h28) cell_29) cell_30) cell_31)
  kernel_rfl
theorem over : Rows.fnExactReadDecimalRow.holds Tryd.pinned (OpenSpec.ofChange Rows.fnExactReadDecimalSpec) :=
  OpenClaim.holds_of_wide 7 Tryd.f7 rfl rfl rfl rfl rfl rfl rfl ⟨rfl, rfl, rfl, rfl, rfl⟩ rfl rfl rfl rfl rfl (by kernel_rfl) Tryd.func7 closed
    (of_decide_eq_true (by kernel_rfl)) (by unfold Func.isWrapper; first | (rw [if_pos (by decide +kernel)]; kernel_rfl) | (rw [if_neg (by decide +kernel)]; exact ⟨rfl, rfl⟩))
    (fun os started H enc _ => lifted os started H enc)
end Go.Proofs.YtlmdoapjcnaflaaDoor.fnExactReadDecimal
namespace Go.Proofs.YtlmdoapjcnaflaaDoor
theorem fnExactReadDecimal_row : Rows.FnExactReadDecimalSaid := fnExactReadDecimal.over
theorem fnExactReadDecimal_params : Tryd.f7.params.toList.all (fun u => !Tryd.prog.wantsStandIn u) = true := by kernel_rfl
theorem fnExactReadDecimal_holds : Rows.FnExactReadDecimalCardSaid :=
  Claim7.holds_tied_plain_at .later [] [.data, .data, .data, .sentinel, .sentinel] true (true, "87a8fd45861a9ccb6b3a6cc8f5f09f9aa36f06efd4b3113846982b85e1f9e713") true
    fnExactReadDecimal_row (fun _ h => by cases h) (by kernel_rfl) (fun _ h => by cases h) fnExactReadDecimal_row_tie rfl ⟨rfl, rfl⟩ (by kernel_rfl) rfl
    (fun f fn hf hfn => by
      obtain rfl : f = 7 := Option.some.inj ((show Tryd.prog.funcNamed "loop.example/g01099/laws.FnExactReadDecimal" = some 7 by kernel_rfl).symm.trans hf) |>.symm
      obtain rfl : fn = Tryd.f7 := (Option.some.inj (Tryd.func7.symm.trans hfn)).symm
      exact ⟨by kernel_rfl, fun j t ht => by
        have hm : t ∈ Tryd.f7.params.toList := by simpa using Array.mem_of_getElem? ht
        exact (show Tryd.prog.wantsStandIn t = false by simpa using List.all_eq_true.1 fnExactReadDecimal_params t hm)⟩)
    (by kernel_rfl)
#print axioms fnExactReadDecimal_holds
end Go.Proofs.YtlmdoapjcnaflaaDoor
