/- The row of FnExactPlanHome: for every input that can be read, the call returns true and each argument reads behind it as it read before; it comes of the printed walk and the plain law. -/
import Derived.Test.YtibmehephlngfaaRows
import Derived.Test.YtibmehephlngfaaQ28
import Derived.Test.YtibmehephlngfaaGRow
import Derived.Test.YtibmehephlngfaaPureFnExactPlanHome
import Derived.Test.YtibmehephlngfaaGCells
import Derived.WalkKit
import Derived.ProofKit
import Derived.OpenShut
import Derived.ShutString
import Derived.ChangeOld
import Derived.Below
import Derived.SizedLaws
import Derived.Carry
import Derived.ChangeSlices
import Derived.Test.YtibmehephlngfaaWSized
namespace Go.Proofs.Ytibmehephlngfaa.Q
open Go.RowKit Go.Joins Go.ChangeShapes Go.WideShapes Go.Proofs.YtibmehephlngfaaW.PrintWords Go.Proofs.YtibmehephlngfaaW.PrintLast Go.Proofs.YtibmehephlngfaaW.PrintMore
namespace RowFnExactPlanHome
theorem row_num2 : NumTy Try.prog 2 1 := num_int Try.underlying2
theorem row_num37 : NumTy Try.prog 37 2 := num_struct2 (n0 := 1) (n1 := 1) Try.underlying37 (by kernel_rfl) rfl rfl (by kernel_rfl) (by kernel_rfl) row_num2 row_num2
theorem row_num23 : NumTy Try.prog 23 3 := num_struct3 (n0 := 1) (n1 := 1) (n2 := 1) Try.underlying23 (by kernel_rfl) rfl rfl rfl (by kernel_rfl) (by kernel_rfl) (by kernel_rfl) row_num2 row_num2 row_num2
end RowFnExactPlanHome
end Go.Proofs.Ytibmehephlngfaa.Q
namespace Go.Proofs.Ytibmehephlngfaa.fnExactPlanHome
open Go.ChangeShapes Go.WideShapes Go.ChangeAt Go.RowKit Go.Proofs.Ytibmehephlngfaa.Q Go.Proofs.Ytibmehephlngfaa.Q.RowFnExactPlanHome Go.Proofs.YtibmehephlngfaaW.PrintWords Go.Proofs.YtibmehephlngfaaW.PrintLast
open Go.ChangeMaps (open_string shut_string)
set_option linter.unusedVariables false
theorem own : ownKnob Try.prog.godebug = none := by kernel_rfl
theorem laidOut : laidOutB Try.prog = true := by kernel_rfl
set_option maxRecDepth 100000 in
theorem lifted (os : Os) (started : os.Started) (H : Type) (enc : TypeId × Value → H) :
    ReturnsInHanded {} Try.checked os 9 .any (Rows.fnExactPlanHomeSpec.pre6 enc Try.prog Try.f9 Rows.fnExactPlanHomeRow.domain false) (Rows.fnExactPlanHomeSpec.post enc Try.prog Try.f9 false true false false) := by
  refine returnsInHanded_of_change_sized (C := Try.checked) own started (by kernel_rfl) Try.func9
    (ChangeSpec.witness6 (enc := enc) (C := Try.checked) false ⟨#[], #[.agg #[.int .i64 0, .int .i64 0], .agg #[.int .i64 0, .int .i64 0, .int .i64 0]], []⟩ 8 (by kernel_rfl) (by kernel_rfl) (by kernel_rfl) (by kernel_rfl)) ?_
  intro W base args ds gs before hval0 hW hcnd hsz0 _
  have hsz : (DataW.weightsEach Try.prog (Try.f9.params.toList ++ Rows.fnExactPlanHomeSpec.plain.varTypes Try.prog) (ds ++ gs)).all (· ≤ reachBytes) = true := hsz0
  have hval : ∀ (j : Nat) t v, Try.f9.params[j]? = some t → args[j]? = some v → Value.okWide Try.prog W .any base t v := hval0
  have hW' := hW
  obtain ⟨p, q, hA0, hV, rfl, hfz, hnd⟩ := hW
  have hA : DataW.TrodAll enc Try.prog W 0 (fun _ => true) true Try.f9.params.toList args.toList ds p := hA0
  rw [Try.params9] at hA hval hsz
  obtain ⟨v0, vs0, d0, ds0, p0, q0, hargs, rfl, rfl, h0, r0⟩ := trodAll_cons hA
  obtain ⟨v1, vs1, d1, ds1, p1, q1, rfl, rfl, rfl, h1, r1⟩ := trodAll_cons r0
  obtain ⟨rfl, rfl, rfl⟩ := trodAll_nil r1
  obtain rfl : args = #[v0, v1] := by cases args; simp_all
  obtain ⟨rfl, rfl⟩ := trodVars_none hV
  have k0 := h0
  have lt0 : ∀ x ∈ p0, x.block < W.heap.size := by obtain ⟨m, hm⟩ := k0; exact DataW.trod_lt m _ _ _ hm
  obtain ⟨zs0, rfl, zl0, zw0⟩ := open_nums row_num37 Try.underlying37 (hval 0 37 v0 rfl rfl) h0
  obtain ⟨a0_0, a0_1, rfl, w0_0, w0_1⟩ := nums2 zl0 zw0
  have k1 := h1
  have lt1 : ∀ x ∈ p1, x.block < W.heap.size := by obtain ⟨m, hm⟩ := k1; exact DataW.trod_lt m _ _ _ hm
  obtain ⟨zs1, rfl, zl1, zw1⟩ := open_nums row_num23 Try.underlying23 (hval 1 23 v1 rfl rfl) h1
  obtain ⟨a1_0, a1_1, a1_2, rfl, w1_0, w1_1, w1_2⟩ := nums3 zl1 zw1
  clear hA0 hval0 hsz0 hsz
  obtain ⟨k, hk⟩ := Pure.FnExactPlanHome a0_0 a0_1 a1_0 a1_1 a1_2 w0_0 w0_1 w1_0 w1_1 w1_2
  refine (laws_FnExactPlanHome.calls k a0_0 a0_1 a1_0 a1_1 a1_2 true W hk).mono fun e W' ⟨he, bel⟩ => ?_
  subst he
  exact ⟨_, rfl, _, _, _, [], _, [], hW', trodAll_mk1 (shut_bool Try.underlying4 _), (trodAll_cons_mk (Below.trod laidOut (by kernel_rfl) (of_decide_eq_true (by kernel_rfl)) k0 bel lt0) (trodAll_cons_mk (Below.trod laidOut (by kernel_rfl) (of_decide_eq_true (by kernel_rfl)) k1 bel lt1) trodAll_mk0)), rfl, bel.frame _, fun h => by cases h⟩
theorem cell_0 : ((Rows.fnExactPlanHomeRow).wf (OpenSpec.ofChange Rows.fnExactPlanHomeSpec)) = true := by kernel_rfl
theorem cell_1 : (laidOutB Try.prog) = true := by kernel_rfl
theorem cell_2 : (mapsRowed Try.prog) = true := by kernel_rfl
theorem cell_3 : ((Try.f9).params.all (Try.prog.readableRec ·)) = true := by kernel_rfl
theorem cell_4 : (namedTie Try.prog (Rows.fnExactPlanHomeRow).named (Rows.fnExactPlanHomeSpec).vars) = true := by kernel_rfl
theorem cell_5 : (((Rows.fnExactPlanHomeRow).stops == [])) = true := by kernel_rfl
theorem cell_6 : ((Try.prog.stops == [])) = true := by kernel_rfl
theorem cell_7 : (((Rows.fnExactPlanHomeRow).knobs == [])) = true := by kernel_rfl
theorem cell_8 : ((Try.prog.stopKnobs == [])) = true := by kernel_rfl
theorem cell_9 : (((Rows.fnExactPlanHomeRow).inPlace == Try.prog.inPlace 9)) = true := by kernel_rfl
theorem cell_10 : (((Rows.fnExactPlanHomeRow).unfollowed == Try.prog.unfollowed 9)) = true := by kernel_rfl
theorem cell_11 : (((Rows.fnExactPlanHomeRow).recurses == Try.prog.recurses 9)) = true := by kernel_rfl
theorem cell_12 : (((Rows.fnExactPlanHomeRow).named == Try.prog.varsNamed 9)) = true := by kernel_rfl
theorem cell_13 : (((Rows.fnExactPlanHomeRow).maps == ((Try.f9).params.toList ++ (Rows.fnExactPlanHomeSpec).plain.varTypes Try.prog).any (Try.prog.mapsRec ·))) = true := by kernel_rfl
theorem cell_14 : (((Rows.fnExactPlanHomeRow).ifaces == ((Try.f9).params.toList ++ (Rows.fnExactPlanHomeSpec).plain.varTypes Try.prog).any (Try.prog.ifacesRec ·))) = true := by kernel_rfl
theorem cell_15 : (((Rows.fnExactPlanHomeRow).mapsOut == Try.prog.mapsAmong (Try.f9).resultTypes.toList)) = true := by kernel_rfl
theorem cell_16 : (((Rows.fnExactPlanHomeRow).loops == ((Try.f9).params.toList ++ (Rows.fnExactPlanHomeSpec).plain.varTypes Try.prog).any (Try.prog.loopsFrom ·))) = true := by kernel_rfl
theorem cell_17 : (((Rows.fnExactPlanHomeRow).wideKeys == ((Try.f9).params.toList ++ (Rows.fnExactPlanHomeSpec).plain.varTypes Try.prog ++ (Try.f9).resultTypes.toList).any (Try.prog.wideKeysFrom ·))) = true := by kernel_rfl
theorem cell_18 : ((Rows.fnExactPlanHomeSpec).vars.all (Try.prog.varReadable ·)) = true := by kernel_rfl
theorem cell_19 : ((Try.f9).resultTypes.all (fun t => Try.prog.readableRec t && decide (t < Try.prog.types.size))) = true := by kernel_rfl
theorem cell_20 : (((Rows.fnExactPlanHomeRow).ifacesOut == (Try.f9).resultTypes.toList.any (Try.prog.ifacesRec ·))) = true := by kernel_rfl
theorem cell_21 : (((Rows.fnExactPlanHomeRow).loopsOut == (Try.f9).resultTypes.toList.any (Try.prog.loopsFrom ·))) = true := by kernel_rfl
theorem cell_22 : (((Rows.fnExactPlanHomeRow).plainKeys == Try.prog.plainKeys)) = true := by kernel_rfl
theorem cell_23 : ((Rows.fnExactPlanHomeRow).shortTexts.isNone) = true := by kernel_rfl
theorem cell_24 : (Try.prog.stopsHeard) = true := by kernel_rfl
theorem cell_25 : (Try.prog.mayEnter) = true := cells_enter
theorem cell_26 : (((Rows.fnExactPlanHomeRow).lifted == Try.prog.liftsFinal)) = true := by have e : (Rows.fnExactPlanHomeRow).lifted = false := rfl; rw [e]; exact cells_lifts
theorem cell_27 : ((Try.prog.make == some (Rows.fnExactPlanHomeRow).make)) = true := by have e : (Rows.fnExactPlanHomeRow).make = Make.cut := rfl; rw [e]; exact cells_make
theorem cell_29 : (((Rows.fnExactPlanHomeRow).pinned == (Rows.fnExactPlanHomeRow).pinnedBy)) = true := by kernel_rfl
theorem cell_30 : (((Rows.fnExactPlanHomeRow).veiled == ((Try.f9).params.toList ++ (Rows.fnExactPlanHomeSpec).plain.varTypes Try.prog ++ (Try.f9).resultTypes.toList).any (Try.prog.veiledRec ·))) = true := by kernel_rfl
theorem cell_31 : ((Rows.fnExactPlanHomeRow).veiledFits Try.prog (Try.f9).params.toList ((Try.f9).params.toList ++ (Rows.fnExactPlanHomeSpec).plain.varTypes Try.prog ++ (Try.f9).resultTypes.toList)) = true := by kernel_rfl
theorem closed : joinedFacts Try.prog 9 Try.f9 Rows.fnExactPlanHomeSpec Rows.fnExactPlanHomeRow = true := by
  unfold joinedFacts
  with_reducible refine (band (band (band (band (band (band (band (band (band (band (band (band (band (band (band (band (band (band (band (band (band (band (band (band (band (band (band (band (band (band (band cell_0 cell_1) cell_2) cell_3) cell_4) cell_5) cell_6) cell_7) cell_8) cell_9) cell_10) cell_11) cell_12) cell_13) cell_14) cell_15) cell_16) cell_17) cell_18) cell_19) cell_20) cell_21) cell_22) cell_23) cell_24) cell_25) cell_26) cell_27) ?h28) cell_29) cell_30) cell_31)
  kernel_rfl
theorem over : Rows.fnExactPlanHomeRow.holds Try.pinned (OpenSpec.ofChange Rows.fnExactPlanHomeSpec) :=
  OpenClaim.holds_of_wide 9 Try.f9 rfl rfl rfl rfl rfl rfl rfl ⟨rfl, rfl, rfl, rfl, rfl⟩ rfl rfl rfl rfl rfl (by kernel_rfl) Try.func9 closed
    (of_decide_eq_true (by kernel_rfl)) (by unfold Func.isWrapper; first | (rw [if_pos (by decide +kernel)]; kernel_rfl) | (rw [if_neg (by decide +kernel)]; exact ⟨rfl, rfl⟩))
    (fun os started H enc _ => lifted os started H enc)
end Go.Proofs.Ytibmehephlngfaa.fnExactPlanHome
namespace Go.Proofs.Ytibmehephlngfaa
theorem fnExactPlanHome_holds : Rows.FnExactPlanHomeSaid := fnExactPlanHome.over
#print axioms fnExactPlanHome_holds
end Go.Proofs.Ytibmehephlngfaa
