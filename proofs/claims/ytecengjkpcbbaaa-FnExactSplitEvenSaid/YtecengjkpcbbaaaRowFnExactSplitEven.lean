/- The row of FnExactSplitEven: for every input that can be read, the call returns true and each argument reads behind it as it read before; it comes of the printed walk and the plain law. -/
import Derived.Test.YtecengjkpcbbaaaRows
import Derived.Test.YtecengjkpcbbaaaQ7
import Derived.Test.YtecengjkpcbbaaaGRow
import Derived.Test.YtecengjkpcbbaaaPureFnExactSplitEven
import Derived.Test.YtecengjkpcbbaaaGCells
import Derived.WalkKit
import Derived.ProofKit
import Derived.OpenShut
import Derived.ShutString
import Derived.ChangeOld
import Derived.Below
import Derived.SizedLaws
import Derived.Carry
import Derived.ChangeSlices
import Derived.Test.YtecengjkpcbbaaaWSized
namespace Go.Proofs.Ytecengjkpcbbaaa.Q
open Go.RowKit Go.Joins Go.ChangeShapes Go.WideShapes Go.Proofs.YtecengjkpcbbaaaW.PrintWords Go.Proofs.YtecengjkpcbbaaaW.PrintLast Go.Proofs.YtecengjkpcbbaaaW.PrintMore
namespace RowFnExactSplitEven
end RowFnExactSplitEven
end Go.Proofs.Ytecengjkpcbbaaa.Q
namespace Go.Proofs.Ytecengjkpcbbaaa.fnExactSplitEven
open Go.ChangeShapes Go.WideShapes Go.ChangeAt Go.RowKit Go.Proofs.Ytecengjkpcbbaaa.Q Go.Proofs.Ytecengjkpcbbaaa.Q.RowFnExactSplitEven Go.Proofs.YtecengjkpcbbaaaW.PrintWords Go.Proofs.YtecengjkpcbbaaaW.PrintLast
open Go.ChangeMaps (open_string shut_string)
set_option linter.unusedVariables false
theorem own : ownKnob Try.prog.godebug = none := by kernel_rfl
theorem laidOut : laidOutB Try.prog = true := by kernel_rfl
set_option maxRecDepth 100000 in
theorem lifted (os : Os) (started : os.Started) (H : Type) (enc : TypeId × Value → H) :
    ReturnsInHanded {} Try.checked os 5 .any (Rows.fnExactSplitEvenSpec.pre6 enc Try.prog Try.f5 Rows.fnExactSplitEvenRow.domain false) (Rows.fnExactSplitEvenSpec.post enc Try.prog Try.f5 false true false false) := by
  refine returnsInHanded_of_change_sized (C := Try.checked) own started (by kernel_rfl) Try.func5
    (ChangeSpec.witness6 (enc := enc) (C := Try.checked) false ⟨#[], #[.int .i64 0, .int .i64 0], []⟩ 8 (by kernel_rfl) (by kernel_rfl) (by kernel_rfl) (by kernel_rfl)) ?_
  intro W base args ds gs before hval0 hW hcnd hsz0 _
  have hsz : (DataW.weightsEach Try.prog (Try.f5.params.toList ++ Rows.fnExactSplitEvenSpec.plain.varTypes Try.prog) (ds ++ gs)).all (· ≤ reachBytes) = true := hsz0
  have hval : ∀ (j : Nat) t v, Try.f5.params[j]? = some t → args[j]? = some v → Value.okWide Try.prog W .any base t v := hval0
  have hW' := hW
  obtain ⟨p, q, hA0, hV, rfl, hfz, hnd⟩ := hW
  have hA : DataW.TrodAll enc Try.prog W 0 (fun _ => true) true Try.f5.params.toList args.toList ds p := hA0
  rw [Try.params5] at hA hval hsz
  obtain ⟨v0, vs0, d0, ds0, p0, q0, hargs, rfl, rfl, h0, r0⟩ := trodAll_cons hA
  obtain ⟨v1, vs1, d1, ds1, p1, q1, rfl, rfl, rfl, h1, r1⟩ := trodAll_cons r0
  obtain ⟨rfl, rfl, rfl⟩ := trodAll_nil r1
  obtain rfl : args = #[v0, v1] := by cases args; simp_all
  obtain ⟨rfl, rfl⟩ := trodVars_none hV
  have k0 := h0
  have lt0 : ∀ x ∈ p0, x.block < W.heap.size := by obtain ⟨m, hm⟩ := k0; exact DataW.trod_lt m _ _ _ hm
  obtain ⟨a0, rfl, rfl, rfl, w0⟩ := open_int Try.underlying2 (hval 0 2 v0 rfl rfl) h0
  have k1 := h1
  have lt1 : ∀ x ∈ p1, x.block < W.heap.size := by obtain ⟨m, hm⟩ := k1; exact DataW.trod_lt m _ _ _ hm
  obtain ⟨a1, rfl, rfl, rfl, w1⟩ := open_int Try.underlying2 (hval 1 2 v1 rfl rfl) h1
  clear hA0 hval0 hsz0 hsz
  obtain ⟨k, hk⟩ := Pure.FnExactSplitEven a0 a1 w0 w1
  refine (laws_FnExactSplitEven.calls k a0 a1 true W hk).mono fun e W' ⟨he, bel⟩ => ?_
  subst he
  exact ⟨_, rfl, _, _, _, [], _, [], hW', trodAll_mk1 (shut_bool Try.underlying4 _), (trodAll_cons_mk (Below.trod laidOut (by kernel_rfl) (of_decide_eq_true (by kernel_rfl)) k0 bel lt0) (trodAll_cons_mk (Below.trod laidOut (by kernel_rfl) (of_decide_eq_true (by kernel_rfl)) k1 bel lt1) trodAll_mk0)), rfl, bel.frame _, fun h => by cases h⟩
theorem cell_0 : ((Rows.fnExactSplitEvenRow).wf (OpenSpec.ofChange Rows.fnExactSplitEvenSpec)) = true := by kernel_rfl
theorem cell_1 : (laidOutB Try.prog) = true := by kernel_rfl
theorem cell_2 : (mapsRowed Try.prog) = true := by kernel_rfl
theorem cell_3 : ((Try.f5).params.all (Try.prog.readableRec ·)) = true := by kernel_rfl
theorem cell_4 : (namedTie Try.prog (Rows.fnExactSplitEvenRow).named (Rows.fnExactSplitEvenSpec).vars) = true := by kernel_rfl
theorem cell_5 : (((Rows.fnExactSplitEvenRow).stops == [])) = true := by kernel_rfl
theorem cell_6 : ((Try.prog.stops == [])) = true := by kernel_rfl
theorem cell_7 : (((Rows.fnExactSplitEvenRow).knobs == [])) = true := by kernel_rfl
theorem cell_8 : ((Try.prog.stopKnobs == [])) = true := by kernel_rfl
theorem cell_9 : (((Rows.fnExactSplitEvenRow).inPlace == Try.prog.inPlace 5)) = true := by kernel_rfl
theorem cell_10 : (((Rows.fnExactSplitEvenRow).unfollowed == Try.prog.unfollowed 5)) = true := by kernel_rfl
theorem cell_11 : (((Rows.fnExactSplitEvenRow).recurses == Try.prog.recurses 5)) = true := by kernel_rfl
theorem cell_12 : (((Rows.fnExactSplitEvenRow).named == Try.prog.varsNamed 5)) = true := by kernel_rfl
theorem cell_13 : (((Rows.fnExactSplitEvenRow).maps == ((Try.f5).params.toList ++ (Rows.fnExactSplitEvenSpec).plain.varTypes Try.prog).any (Try.prog.mapsRec ·))) = true := by kernel_rfl
theorem cell_14 : (((Rows.fnExactSplitEvenRow).ifaces == ((Try.f5).params.toList ++ (Rows.fnExactSplitEvenSpec).plain.varTypes Try.prog).any (Try.prog.ifacesRec ·))) = true := by kernel_rfl
theorem cell_15 : (((Rows.fnExactSplitEvenRow).mapsOut == Try.prog.mapsAmong (Try.f5).resultTypes.toList)) = true := by kernel_rfl
theorem cell_16 : (((Rows.fnExactSplitEvenRow).loops == ((Try.f5).params.toList ++ (Rows.fnExactSplitEvenSpec).plain.varTypes Try.prog).any (Try.prog.loopsFrom ·))) = true := by kernel_rfl
theorem cell_17 : (((Rows.fnExactSplitEvenRow).wideKeys == ((Try.f5).params.toList ++ (Rows.fnExactSplitEvenSpec).plain.varTypes Try.prog ++ (Try.f5).resultTypes.toList).any (Try.prog.wideKeysFrom ·))) = true := by kernel_rfl
theorem cell_18 : ((Rows.fnExactSplitEvenSpec).vars.all (Try.prog.varReadable ·)) = true := by kernel_rfl
theorem cell_19 : ((Try.f5).resultTypes.all (fun t => Try.prog.readableRec t && decide (t < Try.prog.types.size))) = true := by kernel_rfl
theorem cell_20 : (((Rows.fnExactSplitEvenRow).ifacesOut == (Try.f5).resultTypes.toList.any (Try.prog.ifacesRec ·))) = true := by kernel_rfl
theorem cell_21 : (((Rows.fnExactSplitEvenRow).loopsOut == (Try.f5).resultTypes.toList.any (Try.prog.loopsFrom ·))) = true := by kernel_rfl
theorem cell_22 : (((Rows.fnExactSplitEvenRow).plainKeys == Try.prog.plainKeys)) = true := by kernel_rfl
theorem cell_23 : ((Rows.fnExactSplitEvenRow).shortTexts.isNone) = true := by kernel_rfl
theorem cell_24 : (Try.prog.stopsHeard) = true := by kernel_rfl
theorem cell_25 : (Try.prog.mayEnter) = true := cells_enter
theorem cell_26 : (((Rows.fnExactSplitEvenRow).lifted == Try.prog.liftsFinal)) = true := by have e : (Rows.fnExactSplitEvenRow).lifted = false := rfl; rw [e]; exact cells_lifts
theorem cell_27 : ((Try.prog.make == some (Rows.fnExactSplitEvenRow).make)) = true := by have e : (Rows.fnExactSplitEvenRow).make = Make.cut := rfl; rw [e]; exact cells_make
theorem cell_29 : (((Rows.fnExactSplitEvenRow).pinned == (Rows.fnExactSplitEvenRow).pinnedBy)) = true := by kernel_rfl
theorem cell_30 : (((Rows.fnExactSplitEvenRow).veiled == ((Try.f5).params.toList ++ (Rows.fnExactSplitEvenSpec).plain.varTypes Try.prog ++ (Try.f5).resultTypes.toList).any (Try.prog.veiledRec ·))) = true := by kernel_rfl
theorem cell_31 : ((Rows.fnExactSplitEvenRow).veiledFits Try.prog (Try.f5).params.toList ((Try.f5).params.toList ++ (Rows.fnExactSplitEvenSpec).plain.varTypes Try.prog ++ (Try.f5).resultTypes.toList)) = true := by kernel_rfl
theorem closed : joinedFacts Try.prog 5 Try.f5 Rows.fnExactSplitEvenSpec Rows.fnExactSplitEvenRow = true := by
  unfold joinedFacts
  with_reducible refine (band (band (band (band (band (band (band (band (band (band (band (band (band (band (band (band (band (band (band (band (band (band (band (band (band (band (band (band (band (band (band cell_0 cell_1) cell_2) cell_3) cell_4) cell_5) cell_6) cell_7) cell_8) cell_9) cell_10) cell_11) cell_12) cell_13) cell_14) cell_15) cell_16) cell_17) cell_18) cell_19) cell_20) cell_21) cell_22) cell_23) cell_24) cell_25) cell_26) cell_27) ?h28) cell_29) cell_30) cell_31)
  kernel_rfl
theorem over : Rows.fnExactSplitEvenRow.holds Try.pinned (OpenSpec.ofChange Rows.fnExactSplitEvenSpec) :=
  OpenClaim.holds_of_wide 5 Try.f5 rfl rfl rfl rfl rfl rfl rfl ⟨rfl, rfl, rfl, rfl, rfl⟩ rfl rfl rfl rfl rfl (by kernel_rfl) Try.func5 closed
    (of_decide_eq_true (by kernel_rfl)) (by unfold Func.isWrapper; first | (rw [if_pos (by decide +kernel)]; kernel_rfl) | (rw [if_neg (by decide +kernel)]; exact ⟨rfl, rfl⟩))
    (fun os started H enc _ => lifted os started H enc)
end Go.Proofs.Ytecengjkpcbbaaa.fnExactSplitEven
namespace Go.Proofs.Ytecengjkpcbbaaa
theorem fnExactSplitEven_holds : Rows.FnExactSplitEvenSaid := fnExactSplitEven.over
#print axioms fnExactSplitEven_holds
end Go.Proofs.Ytecengjkpcbbaaa
