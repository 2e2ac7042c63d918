/- The row of FnExactFittingKeys: for every input that can be read, the call returns true and each argument reads behind it as it read before; it comes of the printed walk and the plain law. -/
import Derived.Test.YthlbcjoogcanmaaRows
import Derived.Test.YthlbcjoogcanmaaQ44
import Derived.Test.YthlbcjoogcanmaaGRow
import Derived.Test.YthlbcjoogcanmaaPureFnExactFittingKeys
import Derived.Test.YthlbcjoogcanmaaGCells
import Derived.WalkKit
import Derived.ProofKit
import Derived.OpenShut
import Derived.ShutString
import Derived.ChangeOld
import Derived.Below
import Derived.SizedLaws
import Derived.Carry
import Derived.ChangeSlices
import Derived.Test.YthlbcjoogcanmaaWSized
namespace Go.Proofs.Ythlbcjoogcanmaa.Q
open Go.RowKit Go.Joins Go.ChangeShapes Go.WideShapes Go.Proofs.YthlbcjoogcanmaaW.PrintWords Go.Proofs.YthlbcjoogcanmaaW.PrintLast Go.Proofs.YthlbcjoogcanmaaW.PrintMore
namespace RowFnExactFittingKeys
theorem row_num2 : NumTy Try.prog 2 1 := num_int Try.underlying2
theorem row_num23 : NumTy Try.prog 23 4 := num_struct4 (n0 := 1) (n1 := 1) (n2 := 1) (n3 := 1) Try.underlying23 (by kernel_rfl) rfl rfl rfl rfl (by kernel_rfl) (by kernel_rfl) (by kernel_rfl) (by kernel_rfl) row_num2 row_num2 row_num2 row_num2
theorem row_num55 : NumTy Try.prog 55 9 := num_struct3 (n0 := 4) (n1 := 4) (n2 := 1) Try.underlying55 (by kernel_rfl) rfl rfl rfl (by kernel_rfl) (by kernel_rfl) (by kernel_rfl) row_num23 row_num23 row_num2
end RowFnExactFittingKeys
end Go.Proofs.Ythlbcjoogcanmaa.Q
namespace Go.Proofs.Ythlbcjoogcanmaa.fnExactFittingKeys
open Go.ChangeShapes Go.WideShapes Go.ChangeAt Go.RowKit Go.Proofs.Ythlbcjoogcanmaa.Q Go.Proofs.Ythlbcjoogcanmaa.Q.RowFnExactFittingKeys Go.Proofs.YthlbcjoogcanmaaW.PrintWords Go.Proofs.YthlbcjoogcanmaaW.PrintLast
open Go.ChangeMaps (open_string shut_string)
set_option linter.unusedVariables false
theorem own : ownKnob Try.prog.godebug = none := by kernel_rfl
theorem laidOut : laidOutB Try.prog = true := by kernel_rfl
set_option maxRecDepth 100000 in
theorem lifted (os : Os) (started : os.Started) (H : Type) (enc : TypeId × Value → H) :
    ReturnsInHanded {} Try.checked os 19 .any (Rows.fnExactFittingKeysSpec.pre6 enc Try.prog Try.f19 Rows.fnExactFittingKeysRow.domain false) (Rows.fnExactFittingKeysSpec.post enc Try.prog Try.f19 false true false false) := by
  refine returnsInHanded_of_change_sized (C := Try.checked) own started (by kernel_rfl) Try.func19
    (ChangeSpec.witness6 (enc := enc) (C := Try.checked) false ⟨#[], #[.agg #[.int .i64 0, .int .i64 0, .int .i64 0, .int .i64 0, .int .i64 0, .int .i64 0, .int .i64 0, .int .i64 0, .int .i64 0]], []⟩ 8 (by kernel_rfl) (by kernel_rfl) (by kernel_rfl) (by kernel_rfl)) ?_
  intro W base args ds gs before hval0 hW hcnd hsz0 _
  have hsz : (DataW.weightsEach Try.prog (Try.f19.params.toList ++ Rows.fnExactFittingKeysSpec.plain.varTypes Try.prog) (ds ++ gs)).all (· ≤ reachBytes) = true := hsz0
  have hval : ∀ (j : Nat) t v, Try.f19.params[j]? = some t → args[j]? = some v → Value.okWide Try.prog W .any base t v := hval0
  have hW' := hW
  obtain ⟨p, q, hA0, hV, rfl, hfz, hnd⟩ := hW
  have hA : DataW.TrodAll enc Try.prog W 0 (fun _ => true) true Try.f19.params.toList args.toList ds p := hA0
  rw [Try.params19] at hA hval hsz
  obtain ⟨v0, vs0, d0, ds0, p0, q0, hargs, rfl, rfl, h0, r0⟩ := trodAll_cons hA
  obtain ⟨rfl, rfl, rfl⟩ := trodAll_nil r0
  obtain rfl : args = #[v0] := by cases args; simp_all
  obtain ⟨rfl, rfl⟩ := trodVars_none hV
  have k0 := h0
  have lt0 : ∀ x ∈ p0, x.block < W.heap.size := by obtain ⟨m, hm⟩ := k0; exact DataW.trod_lt m _ _ _ hm
  obtain ⟨zs0, rfl, zl0, zw0⟩ := open_nums row_num55 Try.underlying55 (hval 0 55 v0 rfl rfl) h0
  obtain ⟨a0_0, a0_1, a0_2, a0_3, a0_4, a0_5, a0_6, a0_7, a0_8, rfl, w0_0, w0_1, w0_2, w0_3, w0_4, w0_5, w0_6, w0_7, w0_8⟩ := nums9 zl0 zw0
  clear hA0 hval0 hsz0 hsz
  obtain ⟨k, hk⟩ := Pure.FnExactFittingKeys a0_0 a0_1 a0_2 a0_3 a0_4 a0_5 a0_6 a0_7 a0_8 w0_0 w0_1 w0_2 w0_3 w0_4 w0_5 w0_6 w0_7 w0_8
  refine (laws_FnExactFittingKeys.calls k a0_0 a0_1 a0_2 a0_3 a0_4 a0_5 a0_6 a0_7 a0_8 true W hk).mono fun e W' ⟨he, bel⟩ => ?_
  subst he
  exact ⟨_, rfl, _, _, _, [], _, [], hW', trodAll_mk1 (shut_bool Try.underlying4 _), (trodAll_cons_mk (Below.trod laidOut (by kernel_rfl) (of_decide_eq_true (by kernel_rfl)) k0 bel lt0) trodAll_mk0), rfl, bel.frame _, fun h => by cases h⟩
theorem cell_0 : ((Rows.fnExactFittingKeysRow).wf (OpenSpec.ofChange Rows.fnExactFittingKeysSpec)) = true := by kernel_rfl
theorem cell_1 : (laidOutB Try.prog) = true := by kernel_rfl
theorem cell_2 : (mapsRowed Try.prog) = true := by kernel_rfl
theorem cell_3 : ((Try.f19).params.all (Try.prog.readableRec ·)) = true := by kernel_rfl
theorem cell_4 : (namedTie Try.prog (Rows.fnExactFittingKeysRow).named (Rows.fnExactFittingKeysSpec).vars) = true := by kernel_rfl
theorem cell_5 : (((Rows.fnExactFittingKeysRow).stops == [])) = true := by kernel_rfl
theorem cell_6 : ((Try.prog.stops == [])) = true := by kernel_rfl
theorem cell_7 : (((Rows.fnExactFittingKeysRow).knobs == [])) = true := by kernel_rfl
theorem cell_8 : ((Try.prog.stopKnobs == [])) = true := by kernel_rfl
theorem cell_9 : (((Rows.fnExactFittingKeysRow).inPlace == Try.prog.inPlace 19)) = true := by kernel_rfl
theorem cell_10 : (((Rows.fnExactFittingKeysRow).unfollowed == Try.prog.unfollowed 19)) = true := by kernel_rfl
theorem cell_11 : (((Rows.fnExactFittingKeysRow).recurses == Try.prog.recurses 19)) = true := by kernel_rfl
theorem cell_12 : (((Rows.fnExactFittingKeysRow).named == Try.prog.varsNamed 19)) = true := by kernel_rfl
theorem cell_13 : (((Rows.fnExactFittingKeysRow).maps == ((Try.f19).params.toList ++ (Rows.fnExactFittingKeysSpec).plain.varTypes Try.prog).any (Try.prog.mapsRec ·))) = true := by kernel_rfl
theorem cell_14 : (((Rows.fnExactFittingKeysRow).ifaces == ((Try.f19).params.toList ++ (Rows.fnExactFittingKeysSpec).plain.varTypes Try.prog).any (Try.prog.ifacesRec ·))) = true := by kernel_rfl
theorem cell_15 : (((Rows.fnExactFittingKeysRow).mapsOut == Try.prog.mapsAmong (Try.f19).resultTypes.toList)) = true := by kernel_rfl
theorem cell_16 : (((Rows.fnExactFittingKeysRow).loops == ((Try.f19).params.toList ++ (Rows.fnExactFittingKeysSpec).plain.varTypes Try.prog).any (Try.prog.loopsFrom ·))) = true := by kernel_rfl
theorem cell_17 : (((Rows.fnExactFittingKeysRow).wideKeys == ((Try.f19).params.toList ++ (Rows.fnExactFittingKeysSpec).plain.varTypes Try.prog ++ (Try.f19).resultTypes.toList).any (Try.prog.wideKeysFrom ·))) = true := by kernel_rfl
theorem cell_18 : ((Rows.fnExactFittingKeysSpec).vars.all (Try.prog.varReadable ·)) = true := by kernel_rfl
theorem cell_19 : ((Try.f19).resultTypes.all (fun t => Try.prog.readableRec t && decide (t < Try.prog.types.size))) = true := by kernel_rfl
theorem cell_20 : (((Rows.fnExactFittingKeysRow).ifacesOut == (Try.f19).resultTypes.toList.any (Try.prog.ifacesRec ·))) = true := by kernel_rfl
theorem cell_21 : (((Rows.fnExactFittingKeysRow).loopsOut == (Try.f19).resultTypes.toList.any (Try.prog.loopsFrom ·))) = true := by kernel_rfl
theorem cell_22 : (((Rows.fnExactFittingKeysRow).plainKeys == Try.prog.plainKeys)) = true := by kernel_rfl
theorem cell_23 : ((Rows.fnExactFittingKeysRow).shortTexts.isNone) = true := by kernel_rfl
theorem cell_24 : (Try.prog.stopsHeard) = true := by kernel_rfl
theorem cell_25 : (Try.prog.mayEnter) = true := cells_enter
theorem cell_26 : (((Rows.fnExactFittingKeysRow).lifted == Try.prog.liftsFinal)) = true := by have e : (Rows.fnExactFittingKeysRow).lifted = false := rfl; rw [e]; exact cells_lifts
theorem cell_27 : ((Try.prog.make == some (Rows.fnExactFittingKeysRow).make)) = true := by have e : (Rows.fnExactFittingKeysRow).make = Make.cut := rfl; rw [e]; exact cells_make
theorem cell_29 : (((Rows.fnExactFittingKeysRow).pinned == (Rows.fnExactFittingKeysRow).pinnedBy)) = true := by kernel_rfl
theorem cell_30 : (((Rows.fnExactFittingKeysRow).veiled == ((Try.f19).params.toList ++ (Rows.fnExactFittingKeysSpec).plain.varTypes Try.prog ++ (Try.f19).resultTypes.toList).any (Try.prog.veiledRec ·))) = true := by kernel_rfl
theorem cell_31 : ((Rows.fnExactFittingKeysRow).veiledFits Try.prog (Try.f19).params.toList ((Try.f19).params.toList ++ (Rows.fnExactFittingKeysSpec).plain.varTypes Try.prog ++ (Try.f19).resultTypes.toList)) = true := by kernel_rfl
theorem closed : joinedFacts Try.prog 19 Try.f19 Rows.fnExactFittingKeysSpec Rows.fnExactFittingKeysRow = true := by
  unfold joinedFacts
  with_reducible refine (band (band (band (band (band (band (band (band (band (band (band (band (band (band (band (band (band (band (band (band (band (band (band (band (band (band (band (band (band (band (band cell_0 cell_1) cell_2) cell_3) cell_4) cell_5) cell_6) cell_7) cell_8) cell_9) cell_10) cell_11) cell_12) cell_13) cell_14) cell_15) cell_16) cell_17) cell_18) cell_19) cell_20) cell_21) cell_22) cell_23) cell_24) cell_25) cell_26) cell_27) ?h28) cell_29) cell_30) cell_31)
  kernel_rfl
theorem over : Rows.fnExactFittingKeysRow.holds Try.pinned (OpenSpec.ofChange Rows.fnExactFittingKeysSpec) :=
  OpenClaim.holds_of_wide 19 Try.f19 rfl rfl rfl rfl rfl rfl rfl ⟨rfl, rfl, rfl, rfl, rfl⟩ rfl rfl rfl rfl rfl (by kernel_rfl) Try.func19 closed
    (of_decide_eq_true (by kernel_rfl)) (by unfold Func.isWrapper; first | (rw [if_pos (by decide +kernel)]; kernel_rfl) | (rw [if_neg (by decide +kernel)]; exact ⟨rfl, rfl⟩))
    (fun os started H enc _ => lifted os started H enc)
end Go.Proofs.Ythlbcjoogcanmaa.fnExactFittingKeys
namespace Go.Proofs.Ythlbcjoogcanmaa
theorem fnExactFittingKeys_holds : Rows.FnExactFittingKeysSaid := fnExactFittingKeys.over
#print axioms fnExactFittingKeys_holds
end Go.Proofs.Ythlbcjoogcanmaa
