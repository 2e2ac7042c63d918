/- The row of FnExactMiddleOf: for every input that can be read, the call returns true and each argument reads behind it as it read before; it comes of the printed walk and the plain law. -/
import Derived.Test.YtpcekncfdcofhaaRows
import Derived.Test.YtpcekncfdcofhaaQ4
import Derived.Test.YtpcekncfdcofhaaGRow
import Derived.Test.YtpcekncfdcofhaaPureFnExactMiddleOf
import Derived.Test.YtpcekncfdcofhaaGCells
import Derived.WalkKit
import Derived.ProofKit
import Derived.OpenShut
import Derived.ShutString
import Derived.ChangeOld
import Derived.Below
import Derived.SizedLaws
import Derived.Carry
import Derived.ChangeSlices
import Derived.Test.YtpcekncfdcofhaaWSized
namespace Go.Proofs.Ytpcekncfdcofhaa.Q
open Go.RowKit Go.Joins Go.ChangeShapes Go.WideShapes Go.Proofs.YtpcekncfdcofhaaW.PrintWords Go.Proofs.YtpcekncfdcofhaaW.PrintLast Go.Proofs.YtpcekncfdcofhaaW.PrintMore
namespace RowFnExactMiddleOf
end RowFnExactMiddleOf
end Go.Proofs.Ytpcekncfdcofhaa.Q
namespace Go.Proofs.Ytpcekncfdcofhaa.fnExactMiddleOf
open Go.ChangeShapes Go.WideShapes Go.ChangeAt Go.RowKit Go.Proofs.Ytpcekncfdcofhaa.Q Go.Proofs.Ytpcekncfdcofhaa.Q.RowFnExactMiddleOf Go.Proofs.YtpcekncfdcofhaaW.PrintWords Go.Proofs.YtpcekncfdcofhaaW.PrintLast
open Go.ChangeMaps (open_string shut_string)
set_option linter.unusedVariables false
theorem own : ownKnob Try.prog.godebug = none := by kernel_rfl
theorem laidOut : laidOutB Try.prog = true := by kernel_rfl
set_option maxRecDepth 100000 in
theorem lifted (os : Os) (started : os.Started) (H : Type) (enc : TypeId × Value → H) :
    ReturnsInHanded {} Try.checked os 4 .any (Rows.fnExactMiddleOfSpec.pre6 enc Try.prog Try.f4 Rows.fnExactMiddleOfRow.domain false) (Rows.fnExactMiddleOfSpec.post enc Try.prog Try.f4 false true false false) := by
  refine returnsInHanded_of_change_sized (C := Try.checked) own started (by kernel_rfl) Try.func4
    (ChangeSpec.witness6 (enc := enc) (C := Try.checked) false ⟨#[], #[.slice none 0 0], []⟩ 8 (by kernel_rfl) (by kernel_rfl) (by kernel_rfl) (by kernel_rfl)) ?_
  intro W base args ds gs before hval0 hW hcnd hsz0 _
  have hsz : (DataW.weightsEach Try.prog (Try.f4.params.toList ++ Rows.fnExactMiddleOfSpec.plain.varTypes Try.prog) (ds ++ gs)).all (· ≤ reachBytes) = true := hsz0
  have hval : ∀ (j : Nat) t v, Try.f4.params[j]? = some t → args[j]? = some v → Value.okWide Try.prog W .any base t v := hval0
  have hW' := hW
  obtain ⟨p, q, hA0, hV, rfl, hfz, hnd⟩ := hW
  have hA : DataW.TrodAll enc Try.prog W 0 (fun _ => true) true Try.f4.params.toList args.toList ds p := hA0
  rw [Try.params4] at hA hval hsz
  obtain ⟨v0, vs0, d0, ds0, p0, q0, hargs, rfl, rfl, h0, r0⟩ := trodAll_cons hA
  obtain ⟨rfl, rfl, rfl⟩ := trodAll_nil r0
  obtain rfl : args = #[v0] := by cases args; simp_all
  obtain ⟨rfl, rfl⟩ := trodVars_none hV
  have k0 := h0
  have lt0 : ∀ x ∈ p0, x.block < W.heap.size := by obtain ⟨m, hm⟩ := k0; exact DataW.trod_lt m _ _ _ hm
  obtain ⟨A0, len0, cap0, rfl⟩ := okWide_slice Try.underlying25 (hval 0 25 v0 rfl rfl)
  obtain ⟨l0, hlen0, hcap0, hC0, hw0⟩ : ∃ l : List Int, len0 = l.length ∧ len0 ≤ cap0 ∧ Kd.C (Kd.int .i64) W A0 len0 l ∧ ∀ z ∈ l, (Lit.int .i64 z).wf = true := by
    obtain ⟨fuel, hf⟩ := h0
    rcases open_ints Try.underlying25 Try.underlying2 (by kernel_rfl) hf with ⟨hcs, _⟩ | ⟨x, l, c, zs, hcs, _, hl, hm, hz, _, hcell, hwz⟩
    · simp [Value.cells] at hcs
      obtain ⟨rfl, rfl, rfl⟩ := hcs
      exact ⟨[], rfl, Nat.le_refl _, Kd.C_of_reads (d := (0 : Int)) (h1 := fun _ => rfl) ⟨rfl, by omega, fun hn => absurd hn (by omega)⟩, by simp⟩
    · simp [Value.cells] at hcs
      obtain ⟨rfl, rfl, rfl⟩ := hcs
      have hle : len0 ≤ zs.length := by simp at hz; omega
      refine ⟨zs.take len0, by simp; omega, hl, ?_, fun z hz2 => hwz z (List.mem_of_mem_take hz2)⟩
      refine Kd.C_of_reads (d := (0 : Int)) (h1 := fun _ => rfl) ⟨by simp; omega, by unfold maxLen at hm; omega, fun hn => ⟨x, rfl, fun j hj => ?_⟩⟩
      have h2 := hcell j (by omega)
      rw [h2]
      congr 2
      simp [List.getD, hj]
  subst hlen0
  have hm0 : l0.length ≤ 9223372036854775807 := hC0.2.1
  clear hA0 hval0 hsz0 hsz
  obtain ⟨k, hk⟩ := Pure.FnExactMiddleOf l0 hm0 hw0
  refine (laws_FnExactMiddleOf.calls k A0 cap0 l0 true W hC0 hcap0 hk).mono fun e W' ⟨he, bel⟩ => ?_
  subst he
  exact ⟨_, rfl, _, _, _, [], _, [], hW', trodAll_mk1 (shut_bool Try.underlying4 _), (trodAll_cons_mk (Below.trod laidOut (by kernel_rfl) (of_decide_eq_true (by kernel_rfl)) k0 bel lt0) trodAll_mk0), rfl, bel.frame _, fun h => by cases h⟩
theorem cell_0 : ((Rows.fnExactMiddleOfRow).wf (OpenSpec.ofChange Rows.fnExactMiddleOfSpec)) = true := by kernel_rfl
theorem cell_1 : (laidOutB Try.prog) = true := by kernel_rfl
theorem cell_2 : (mapsRowed Try.prog) = true := by kernel_rfl
theorem cell_3 : ((Try.f4).params.all (Try.prog.readableRec ·)) = true := by kernel_rfl
theorem cell_4 : (namedTie Try.prog (Rows.fnExactMiddleOfRow).named (Rows.fnExactMiddleOfSpec).vars) = true := by kernel_rfl
theorem cell_5 : (((Rows.fnExactMiddleOfRow).stops == [])) = true := by kernel_rfl
theorem cell_6 : ((Try.prog.stops == [])) = true := by kernel_rfl
theorem cell_7 : (((Rows.fnExactMiddleOfRow).knobs == [])) = true := by kernel_rfl
theorem cell_8 : ((Try.prog.stopKnobs == [])) = true := by kernel_rfl
theorem cell_9 : (((Rows.fnExactMiddleOfRow).inPlace == Try.prog.inPlace 4)) = true := by kernel_rfl
theorem cell_10 : (((Rows.fnExactMiddleOfRow).unfollowed == Try.prog.unfollowed 4)) = true := by kernel_rfl
theorem cell_11 : (((Rows.fnExactMiddleOfRow).recurses == Try.prog.recurses 4)) = true := by kernel_rfl
theorem cell_12 : (((Rows.fnExactMiddleOfRow).named == Try.prog.varsNamed 4)) = true := by kernel_rfl
theorem cell_13 : (((Rows.fnExactMiddleOfRow).maps == ((Try.f4).params.toList ++ (Rows.fnExactMiddleOfSpec).plain.varTypes Try.prog).any (Try.prog.mapsRec ·))) = true := by kernel_rfl
theorem cell_14 : (((Rows.fnExactMiddleOfRow).ifaces == ((Try.f4).params.toList ++ (Rows.fnExactMiddleOfSpec).plain.varTypes Try.prog).any (Try.prog.ifacesRec ·))) = true := by kernel_rfl
theorem cell_15 : (((Rows.fnExactMiddleOfRow).mapsOut == Try.prog.mapsAmong (Try.f4).resultTypes.toList)) = true := by kernel_rfl
theorem cell_16 : (((Rows.fnExactMiddleOfRow).loops == ((Try.f4).params.toList ++ (Rows.fnExactMiddleOfSpec).plain.varTypes Try.prog).any (Try.prog.loopsFrom ·))) = true := by kernel_rfl
theorem cell_17 : (((Rows.fnExactMiddleOfRow).wideKeys == ((Try.f4).params.toList ++ (Rows.fnExactMiddleOfSpec).plain.varTypes Try.prog ++ (Try.f4).resultTypes.toList).any (Try.prog.wideKeysFrom ·))) = true := by kernel_rfl
theorem cell_18 : ((Rows.fnExactMiddleOfSpec).vars.all (Try.prog.varReadable ·)) = true := by kernel_rfl
theorem cell_19 : ((Try.f4).resultTypes.all (fun t => Try.prog.readableRec t && decide (t < Try.prog.types.size))) = true := by kernel_rfl
theorem cell_20 : (((Rows.fnExactMiddleOfRow).ifacesOut == (Try.f4).resultTypes.toList.any (Try.prog.ifacesRec ·))) = true := by kernel_rfl
theorem cell_21 : (((Rows.fnExactMiddleOfRow).loopsOut == (Try.f4).resultTypes.toList.any (Try.prog.loopsFrom ·))) = true := by kernel_rfl
theorem cell_22 : (((Rows.fnExactMiddleOfRow).plainKeys == Try.prog.plainKeys)) = true := by kernel_rfl
theorem cell_23 : ((Rows.fnExactMiddleOfRow).shortTexts.isNone) = true := by kernel_rfl
theorem cell_24 : (Try.prog.stopsHeard) = true := by kernel_rfl
theorem cell_25 : (Try.prog.mayEnter) = true := cells_enter
theorem cell_26 : (((Rows.fnExactMiddleOfRow).lifted == Try.prog.liftsFinal)) = true := by have e : (Rows.fnExactMiddleOfRow).lifted = false := rfl; rw [e]; exact cells_lifts
theorem cell_27 : ((Try.prog.make == some (Rows.fnExactMiddleOfRow).make)) = true := by have e : (Rows.fnExactMiddleOfRow).make = Make.cut := rfl; rw [e]; exact cells_make
theorem cell_29 : (((Rows.fnExactMiddleOfRow).pinned == (Rows.fnExactMiddleOfRow).pinnedBy)) = true := by kernel_rfl
theorem cell_30 : (((Rows.fnExactMiddleOfRow).veiled == ((Try.f4).params.toList ++ (Rows.fnExactMiddleOfSpec).plain.varTypes Try.prog ++ (Try.f4).resultTypes.toList).any (Try.prog.veiledRec ·))) = true := by kernel_rfl
theorem cell_31 : ((Rows.fnExactMiddleOfRow).veiledFits Try.prog (Try.f4).params.toList ((Try.f4).params.toList ++ (Rows.fnExactMiddleOfSpec).plain.varTypes Try.prog ++ (Try.f4).resultTypes.toList)) = true := by kernel_rfl
theorem closed : joinedFacts Try.prog 4 Try.f4 Rows.fnExactMiddleOfSpec Rows.fnExactMiddleOfRow = true := by
  unfold joinedFacts
  with_reducible refine (band (band (band (band (band (band (band (band (band (band (band (band (band (band (band (band (band (band (band (band (band (band (band (band (band (band (band (band (band (band (band cell_0 cell_1) cell_2) cell_3) cell_4) cell_5) cell_6) cell_7) cell_8) cell_9) cell_10) cell_11) cell_12) cell_13) cell_14) cell_15) cell_16) cell_17) cell_18) cell_19) cell_20) cell_21) cell_22) cell_23) cell_24) cell_25) cell_26) cell_27) ?h28) cell_29) cell_30) cell_31)
  kernel_rfl
theorem over : Rows.fnExactMiddleOfRow.holds Try.pinned (OpenSpec.ofChange Rows.fnExactMiddleOfSpec) :=
  OpenClaim.holds_of_wide 4 Try.f4 rfl rfl rfl rfl rfl rfl rfl ⟨rfl, rfl, rfl, rfl, rfl⟩ rfl rfl rfl rfl rfl (by kernel_rfl) Try.func4 closed
    (of_decide_eq_true (by kernel_rfl)) (by unfold Func.isWrapper; first | (rw [if_pos (by decide +kernel)]; kernel_rfl) | (rw [if_neg (by decide +kernel)]; exact ⟨rfl, rfl⟩))
    (fun os started H enc _ => lifted os started H enc)
end Go.Proofs.Ytpcekncfdcofhaa.fnExactMiddleOf
namespace Go.Proofs.Ytpcekncfdcofhaa
theorem fnExactMiddleOf_holds : Rows.FnExactMiddleOfSaid := fnExactMiddleOf.over
#print axioms fnExactMiddleOf_holds
end Go.Proofs.Ytpcekncfdcofhaa
