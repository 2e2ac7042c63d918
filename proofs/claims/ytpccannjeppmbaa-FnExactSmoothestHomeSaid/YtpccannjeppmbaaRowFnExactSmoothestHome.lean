/- The row of FnExactSmoothestHome: for every input that can be read, the call returns true and each argument reads behind it as it read before; it comes of the printed walk and the plain law. -/
import Derived.Test.YtpccannjeppmbaaRows
import Derived.Test.YtpccannjeppmbaaQ6
import Derived.Test.YtpccannjeppmbaaGRow
import Derived.Test.YtpccannjeppmbaaPureFnExactSmoothestHome
import Derived.Test.YtpccannjeppmbaaGCells
import Derived.WalkKit
import Derived.ProofKit
import Derived.OpenShut
import Derived.ShutString
import Derived.ChangeOld
import Derived.Below
import Derived.SizedLaws
import Derived.Carry
import Derived.ChangeSlices
import Derived.Test.YtpccannjeppmbaaVw
namespace Go.Proofs.Ytpccannjeppmbaa.Q
open Go.RowKit Go.Joins Go.ChangeShapes Go.WideShapes Go.Proofs.YtpccannjeppmbaaW.PrintWords Go.Proofs.YtpccannjeppmbaaW.PrintLast Go.Proofs.YtpccannjeppmbaaW.PrintMore
namespace RowFnExactSmoothestHome
theorem row_num2 : NumTy Try.prog 2 1 := num_int Try.underlying2
theorem row_num23 : NumTy Try.prog 23 2 := num_struct2 (n0 := 1) (n1 := 1) Try.underlying23 (by kernel_rfl) rfl rfl (by kernel_rfl) (by kernel_rfl) row_num2 row_num2
theorem row_num25 : NumTy Try.prog 25 3 := num_struct3 (n0 := 1) (n1 := 1) (n2 := 1) Try.underlying25 (by kernel_rfl) rfl rfl rfl (by kernel_rfl) (by kernel_rfl) (by kernel_rfl) row_num2 row_num2 row_num2
end RowFnExactSmoothestHome
end Go.Proofs.Ytpccannjeppmbaa.Q
namespace Go.Proofs.Ytpccannjeppmbaa.fnExactSmoothestHome
open Go.ChangeShapes Go.WideShapes Go.ChangeAt Go.RowKit Go.Proofs.Ytpccannjeppmbaa.Q Go.Proofs.Ytpccannjeppmbaa.Q.RowFnExactSmoothestHome Go.Proofs.YtpccannjeppmbaaW.PrintWords Go.Proofs.YtpccannjeppmbaaW.PrintLast
open Go.ChangeMaps (open_string shut_string)
set_option linter.unusedVariables false
theorem own : ownKnob Try.prog.godebug = none := by kernel_rfl
theorem laidOut : laidOutB Try.prog = true := by kernel_rfl
set_option maxRecDepth 100000 in
theorem lifted (os : Os) (started : os.Started) (H : Type) (enc : TypeId × Value → H) :
    ReturnsInHanded {} Try.checked os 3 .any (Rows.fnExactSmoothestHomeSpec.pre6 enc Try.prog Try.f3 Rows.fnExactSmoothestHomeRow.domain false) (Rows.fnExactSmoothestHomeSpec.post enc Try.prog Try.f3 false true false false) := by
  refine returnsInHanded_of_change_sized (C := Try.checked) own started (by kernel_rfl) Try.func3
    (ChangeSpec.witness6 (enc := enc) (C := Try.checked) false ⟨#[], #[.agg #[.int .i64 0, .int .i64 0], .agg #[.int .i64 0, .int .i64 0, .int .i64 0], .int .i64 0], []⟩ 8 (by kernel_rfl) (by kernel_rfl) (by kernel_rfl) (by kernel_rfl)) ?_
  intro W base args ds gs before hval0 hW hcnd hsz0 _
  have hsz : (DataW.weightsEach Try.prog (Try.f3.params.toList ++ Rows.fnExactSmoothestHomeSpec.plain.varTypes Try.prog) (ds ++ gs)).all (· ≤ reachBytes) = true := hsz0
  have hval : ∀ (j : Nat) t v, Try.f3.params[j]? = some t → args[j]? = some v → Value.okWide Try.prog W .any base t v := hval0
  have hW' := hW
  obtain ⟨p, q, hA0, hV, rfl, hfz, hnd⟩ := hW
  have hA : DataW.TrodAll enc Try.prog W 0 (fun _ => true) true Try.f3.params.toList args.toList ds p := hA0
  rw [Try.params3] at hA hval hsz
  obtain ⟨v0, vs0, d0, ds0, p0, q0, hargs, rfl, rfl, h0, r0⟩ := trodAll_cons hA
  obtain ⟨v1, vs1, d1, ds1, p1, q1, rfl, rfl, rfl, h1, r1⟩ := trodAll_cons r0
  obtain ⟨v2, vs2, d2, ds2, p2, q2, rfl, rfl, rfl, h2, r2⟩ := trodAll_cons r1
  obtain ⟨rfl, rfl, rfl⟩ := trodAll_nil r2
  obtain rfl : args = #[v0, v1, v2] := by cases args; simp_all
  obtain ⟨rfl, rfl⟩ := trodVars_none hV
  have k0 := h0
  have lt0 : ∀ x ∈ p0, x.block < W.heap.size := by obtain ⟨m, hm⟩ := k0; exact DataW.trod_lt m _ _ _ hm
  obtain ⟨zs0, rfl, zl0, zw0⟩ := open_nums row_num23 Try.underlying23 (hval 0 23 v0 rfl rfl) h0
  obtain ⟨a0_0, a0_1, rfl, w0_0, w0_1⟩ := nums2 zl0 zw0
  have k1 := h1
  have lt1 : ∀ x ∈ p1, x.block < W.heap.size := by obtain ⟨m, hm⟩ := k1; exact DataW.trod_lt m _ _ _ hm
  obtain ⟨zs1, rfl, zl1, zw1⟩ := open_nums row_num25 Try.underlying25 (hval 1 25 v1 rfl rfl) h1
  obtain ⟨a1_0, a1_1, a1_2, rfl, w1_0, w1_1, w1_2⟩ := nums3 zl1 zw1
  have k2 := h2
  have lt2 : ∀ x ∈ p2, x.block < W.heap.size := by obtain ⟨m, hm⟩ := k2; exact DataW.trod_lt m _ _ _ hm
  obtain ⟨a2, rfl, rfl, rfl, w2⟩ := open_int Try.underlying2 (hval 2 2 v2 rfl rfl) h2
  clear hA0 hval0 hsz0 hsz
  obtain ⟨k, hk⟩ := Pure.FnExactSmoothestHome a0_0 a0_1 a1_0 a1_1 a1_2 a2 w0_0 w0_1 w1_0 w1_1 w1_2 w2
  refine (laws_FnExactSmoothestHome.calls k a0_0 a0_1 a1_0 a1_1 a1_2 a2 true W hk).mono fun e W' ⟨he, bel⟩ => ?_
  subst he
  exact ⟨_, rfl, _, _, _, [], _, [], hW', trodAll_mk1 (shut_bool Try.underlying4 _), (trodAll_cons_mk (Below.trod laidOut (by kernel_rfl) (of_decide_eq_true (by kernel_rfl)) k0 bel lt0) (trodAll_cons_mk (Below.trod laidOut (by kernel_rfl) (of_decide_eq_true (by kernel_rfl)) k1 bel lt1) (trodAll_cons_mk (Below.trod laidOut (by kernel_rfl) (of_decide_eq_true (by kernel_rfl)) k2 bel lt2) trodAll_mk0))), rfl, bel.frame _, fun h => by cases h⟩
theorem cell_0 : ((Rows.fnExactSmoothestHomeRow).wf (OpenSpec.ofChange Rows.fnExactSmoothestHomeSpec)) = true := by kernel_rfl
theorem cell_1 : (laidOutB Try.prog) = true := by kernel_rfl
theorem cell_2 : (mapsRowed Try.prog) = true := by kernel_rfl
theorem cell_3 : ((Try.f3).params.all (Try.prog.readableRec ·)) = true := by kernel_rfl
theorem cell_4 : (namedTie Try.prog (Rows.fnExactSmoothestHomeRow).named (Rows.fnExactSmoothestHomeSpec).vars) = true := by kernel_rfl
theorem cell_5 : (((Rows.fnExactSmoothestHomeRow).stops == [])) = true := by kernel_rfl
theorem cell_6 : ((Try.prog.stops == [])) = true := by kernel_rfl
theorem cell_7 : (((Rows.fnExactSmoothestHomeRow).knobs == [])) = true := by kernel_rfl
theorem cell_8 : ((Try.prog.stopKnobs == [])) = true := by kernel_rfl
theorem cell_9 : (((Rows.fnExactSmoothestHomeRow).inPlace == Try.prog.inPlace 3)) = true := by kernel_rfl
theorem cell_10 : (((Rows.fnExactSmoothestHomeRow).unfollowed == Try.prog.unfollowed 3)) = true := by kernel_rfl
theorem cell_11 : (((Rows.fnExactSmoothestHomeRow).recurses == Try.prog.recurses 3)) = true := by kernel_rfl
theorem cell_12 : (((Rows.fnExactSmoothestHomeRow).named == Try.prog.varsNamed 3)) = true := by kernel_rfl
theorem cell_13 : (((Rows.fnExactSmoothestHomeRow).maps == ((Try.f3).params.toList ++ (Rows.fnExactSmoothestHomeSpec).plain.varTypes Try.prog).any (Try.prog.mapsRec ·))) = true := by kernel_rfl
theorem cell_14 : (((Rows.fnExactSmoothestHomeRow).ifaces == ((Try.f3).params.toList ++ (Rows.fnExactSmoothestHomeSpec).plain.varTypes Try.prog).any (Try.prog.ifacesRec ·))) = true := by kernel_rfl
theorem cell_15 : (((Rows.fnExactSmoothestHomeRow).mapsOut == Try.prog.mapsAmong (Try.f3).resultTypes.toList)) = true := by kernel_rfl
theorem cell_16 : (((Rows.fnExactSmoothestHomeRow).loops == ((Try.f3).params.toList ++ (Rows.fnExactSmoothestHomeSpec).plain.varTypes Try.prog).any (Try.prog.loopsFrom ·))) = true := by kernel_rfl
theorem cell_17 : (((Rows.fnExactSmoothestHomeRow).wideKeys == ((Try.f3).params.toList ++ (Rows.fnExactSmoothestHomeSpec).plain.varTypes Try.prog ++ (Try.f3).resultTypes.toList).any (Try.prog.wideKeysFrom ·))) = true := by kernel_rfl
theorem cell_18 : ((Rows.fnExactSmoothestHomeSpec).vars.all (Try.prog.varReadable ·)) = true := by kernel_rfl
theorem cell_19 : ((Try.f3).resultTypes.all (fun t => Try.prog.readableRec t && decide (t < Try.prog.types.size))) = true := by kernel_rfl
theorem cell_20 : (((Rows.fnExactSmoothestHomeRow).ifacesOut == (Try.f3).resultTypes.toList.any (Try.prog.ifacesRec ·))) = true := by kernel_rfl
theorem cell_21 : (((Rows.fnExactSmoothestHomeRow).loopsOut == (Try.f3).resultTypes.toList.any (Try.prog.loopsFrom ·))) = true := by kernel_rfl
theorem cell_22 : (((Rows.fnExactSmoothestHomeRow).plainKeys == Try.prog.plainKeys)) = true := by kernel_rfl
theorem cell_23 : ((Rows.fnExactSmoothestHomeRow).shortTexts.isNone) = true := by kernel_rfl
theorem cell_24 : (Try.prog.stopsHeard) = true := by kernel_rfl
theorem cell_25 : (Try.prog.mayEnter) = true := cells_enter
theorem cell_26 : (((Rows.fnExactSmoothestHomeRow).lifted == Try.prog.liftsFinal)) = true := by have e : (Rows.fnExactSmoothestHomeRow).lifted = false := rfl; rw [e]; exact cells_lifts
theorem cell_27 : ((Try.prog.make == some (Rows.fnExactSmoothestHomeRow).make)) = true := by have e : (Rows.fnExactSmoothestHomeRow).make = Make.cut := rfl; rw [e]; exact cells_make
theorem cell_29 : (((Rows.fnExactSmoothestHomeRow).pinned == (Rows.fnExactSmoothestHomeRow).pinnedBy)) = true := by kernel_rfl
theorem cell_30 : (((Rows.fnExactSmoothestHomeRow).veiled == ((Try.f3).params.toList ++ (Rows.fnExactSmoothestHomeSpec).plain.varTypes Try.prog ++ (Try.f3).resultTypes.toList).any (Try.prog.veiledRec ·))) = true := by kernel_rfl
theorem cell_31 : ((Rows.fnExactSmoothestHomeRow).veiledFits Try.prog (Try.f3).params.toList ((Try.f3).params.toList ++ (Rows.fnExactSmoothestHomeSpec).plain.varTypes Try.prog ++ (Try.f3).resultTypes.toList)) = true := by kernel_rfl
theorem closed : joinedFacts Try.prog 3 Try.f3 Rows.fnExactSmoothestHomeSpec Rows.fnExactSmoothestHomeRow = true := by
  unfold joinedFacts
  with_reducible refine (band (band (band (band (band (band (band (band (band (band (band (band (band (band (band (band (band (band (band (band (band (band (band (band (band (band (band (band (band (band (band cell_0 cell_1) cell_2) cell_3) cell_4) cell_5) cell_6) cell_7) cell_8) cell_9) cell_10) cell_11) cell_12) cell_13) cell_14) cell_15) cell_16) cell_17) cell_18) cell_19) cell_20) cell_21) cell_22) cell_23) cell_24) cell_25) cell_26) cell_27) ?h28) cell_29) cell_30) cell_31)
  kernel_rfl
theorem over : Rows.fnExactSmoothestHomeRow.holds Try.pinned (OpenSpec.ofChange Rows.fnExactSmoothestHomeSpec) :=
  OpenClaim.holds_of_wide 3 Try.f3 rfl rfl rfl rfl rfl rfl rfl ⟨rfl, rfl, rfl, rfl, rfl⟩ rfl rfl rfl rfl rfl (by kernel_rfl) Try.func3 closed
    (of_decide_eq_true (by kernel_rfl)) (by unfold Func.isWrapper; first | (rw [if_pos (by decide +kernel)]; kernel_rfl) | (rw [if_neg (by decide +kernel)]; exact ⟨rfl, rfl⟩))
    (fun os started H enc _ => lifted os started H enc)
end Go.Proofs.Ytpccannjeppmbaa.fnExactSmoothestHome
namespace Go.Proofs.Ytpccannjeppmbaa
theorem fnExactSmoothestHome_holds : Rows.FnExactSmoothestHomeSaid := fnExactSmoothestHome.over
#print axioms fnExactSmoothestHome_holds
end Go.Proofs.Ytpccannjeppmbaa
