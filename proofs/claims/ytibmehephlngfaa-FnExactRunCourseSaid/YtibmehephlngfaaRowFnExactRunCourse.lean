/- The row of FnExactRunCourse: for every input that can be read, the call returns true and each argument reads behind it as it read before; it comes of the printed walk and the plain law. -/
import Derived.Test.YtibmehephlngfaaRows
import Derived.Test.YtibmehephlngfaaQ23
import Derived.Test.YtibmehephlngfaaGRow
import Derived.Test.YtibmehephlngfaaPureFnExactRunCourse
import Derived.Test.YtibmehephlngfaaGCells
import Derived.WalkKit
import Derived.ProofKit
import Derived.OpenShut
import Derived.ShutString
import Derived.ChangeOld
import Derived.Below
import Derived.SizedLaws
import Derived.Carry
import Derived.ChangeSlices
import Derived.Test.YtibmehephlngfaaWSized
namespace Go.Proofs.Ytibmehephlngfaa.Q
open Go.RowKit Go.Joins Go.ChangeShapes Go.WideShapes Go.Proofs.YtibmehephlngfaaW.PrintWords Go.Proofs.YtibmehephlngfaaW.PrintLast Go.Proofs.YtibmehephlngfaaW.PrintMore
namespace RowFnExactRunCourse
theorem row_num2 : NumTy Try.prog 2 1 := num_int Try.underlying2
theorem row_num37 : NumTy Try.prog 37 2 := num_struct2 (n0 := 1) (n1 := 1) Try.underlying37 (by kernel_rfl) rfl rfl (by kernel_rfl) (by kernel_rfl) row_num2 row_num2
theorem row_num23 : NumTy Try.prog 23 3 := num_struct3 (n0 := 1) (n1 := 1) (n2 := 1) Try.underlying23 (by kernel_rfl) rfl rfl rfl (by kernel_rfl) (by kernel_rfl) (by kernel_rfl) row_num2 row_num2 row_num2
end RowFnExactRunCourse
end Go.Proofs.Ytibmehephlngfaa.Q
namespace Go.Proofs.Ytibmehephlngfaa.fnExactRunCourse
open Go.ChangeShapes Go.WideShapes Go.ChangeAt Go.RowKit Go.Proofs.Ytibmehephlngfaa.Q Go.Proofs.Ytibmehephlngfaa.Q.RowFnExactRunCourse Go.Proofs.YtibmehephlngfaaW.PrintWords Go.Proofs.YtibmehephlngfaaW.PrintLast
open Go.ChangeMaps (open_string shut_string)
set_option linter.unusedVariables false
theorem own : ownKnob Try.prog.godebug = none := by kernel_rfl
theorem laidOut : laidOutB Try.prog = true := by kernel_rfl
set_option maxRecDepth 100000 in
theorem lifted (os : Os) (started : os.Started) (H : Type) (enc : TypeId × Value → H) :
    ReturnsInHanded {} Try.checked os 7 .any (Rows.fnExactRunCourseSpec.pre6 enc Try.prog Try.f7 Rows.fnExactRunCourseRow.domain false) (Rows.fnExactRunCourseSpec.post enc Try.prog Try.f7 false true false false) := by
  refine returnsInHanded_of_change_sized (C := Try.checked) own started (by kernel_rfl) Try.func7
    (ChangeSpec.witness6 (enc := enc) (C := Try.checked) false ⟨#[], #[.agg #[.int .i64 0, .int .i64 0], .agg #[.int .i64 0, .int .i64 0, .int .i64 0], .slice none 0 0], []⟩ 8 (by kernel_rfl) (by kernel_rfl) (by kernel_rfl) (by kernel_rfl)) ?_
  intro W base args ds gs before hval0 hW hcnd hsz0 _
  have hsz : (DataW.weightsEach Try.prog (Try.f7.params.toList ++ Rows.fnExactRunCourseSpec.plain.varTypes Try.prog) (ds ++ gs)).all (· ≤ reachBytes) = true := hsz0
  have hval : ∀ (j : Nat) t v, Try.f7.params[j]? = some t → args[j]? = some v → Value.okWide Try.prog W .any base t v := hval0
  have hW' := hW
  obtain ⟨p, q, hA0, hV, rfl, hfz, hnd⟩ := hW
  have hA : DataW.TrodAll enc Try.prog W 0 (fun _ => true) true Try.f7.params.toList args.toList ds p := hA0
  rw [Try.params7] at hA hval hsz
  obtain ⟨v0, vs0, d0, ds0, p0, q0, hargs, rfl, rfl, h0, r0⟩ := trodAll_cons hA
  obtain ⟨v1, vs1, d1, ds1, p1, q1, rfl, rfl, rfl, h1, r1⟩ := trodAll_cons r0
  obtain ⟨v2, vs2, d2, ds2, p2, q2, rfl, rfl, rfl, h2, r2⟩ := trodAll_cons r1
  obtain ⟨rfl, rfl, rfl⟩ := trodAll_nil r2
  obtain rfl : args = #[v0, v1, v2] := by cases args; simp_all
  obtain ⟨rfl, rfl⟩ := trodVars_none hV
  have k0 := h0
  have lt0 : ∀ x ∈ p0, x.block < W.heap.size := by obtain ⟨m, hm⟩ := k0; exact DataW.trod_lt m _ _ _ hm
  obtain ⟨zs0, rfl, zl0, zw0⟩ := open_nums row_num37 Try.underlying37 (hval 0 37 v0 rfl rfl) h0
  obtain ⟨a0_0, a0_1, rfl, w0_0, w0_1⟩ := nums2 zl0 zw0
  have k1 := h1
  have lt1 : ∀ x ∈ p1, x.block < W.heap.size := by obtain ⟨m, hm⟩ := k1; exact DataW.trod_lt m _ _ _ hm
  obtain ⟨zs1, rfl, zl1, zw1⟩ := open_nums row_num23 Try.underlying23 (hval 1 23 v1 rfl rfl) h1
  obtain ⟨a1_0, a1_1, a1_2, rfl, w1_0, w1_1, w1_2⟩ := nums3 zl1 zw1
  have k2 := h2
  have lt2 : ∀ x ∈ p2, x.block < W.heap.size := by obtain ⟨m, hm⟩ := k2; exact DataW.trod_lt m _ _ _ hm
  obtain ⟨A2, len2, cap2, rfl⟩ := okWide_slice Try.underlying43 (hval 2 43 v2 rfl rfl)
  obtain ⟨l2, hlen2, hcap2, hC2, hw2⟩ : ∃ l : List Int, len2 = l.length ∧ len2 ≤ cap2 ∧ Kd.C (Kd.int .i64) W A2 len2 l ∧ ∀ z ∈ l, (Lit.int .i64 z).wf = true := by
    obtain ⟨fuel, hf⟩ := h2
    rcases open_ints Try.underlying43 Try.underlying2 (by kernel_rfl) hf with ⟨hcs, _⟩ | ⟨x, l, c, zs, hcs, _, hl, hm, hz, _, hcell, hwz⟩
    · simp [Value.cells] at hcs
      obtain ⟨rfl, rfl, rfl⟩ := hcs
      exact ⟨[], rfl, Nat.le_refl _, Kd.C_of_reads (d := (0 : Int)) (h1 := fun _ => rfl) ⟨rfl, by omega, fun hn => absurd hn (by omega)⟩, by simp⟩
    · simp [Value.cells] at hcs
      obtain ⟨rfl, rfl, rfl⟩ := hcs
      have hle : len2 ≤ zs.length := by simp at hz; omega
      refine ⟨zs.take len2, by simp; omega, hl, ?_, fun z hz2 => hwz z (List.mem_of_mem_take hz2)⟩
      refine Kd.C_of_reads (d := (0 : Int)) (h1 := fun _ => rfl) ⟨by simp; omega, by unfold maxLen at hm; omega, fun hn => ⟨x, rfl, fun j hj => ?_⟩⟩
      have h2 := hcell j (by omega)
      rw [h2]
      congr 2
      simp [List.getD, hj]
  subst hlen2
  have hm2 : l2.length ≤ 9223372036854775807 := hC2.2.1
  clear hA0 hval0 hsz0 hsz
  obtain ⟨k, hk⟩ := Pure.FnExactRunCourse a0_0 a0_1 a1_0 a1_1 a1_2 l2 w0_0 w0_1 w1_0 w1_1 w1_2 hm2 hw2
  refine (laws_FnExactRunCourse.calls k a0_0 a0_1 a1_0 a1_1 a1_2 A2 cap2 l2 true W hC2 hcap2 hk).mono fun e W' ⟨he, bel⟩ => ?_
  subst he
  exact ⟨_, rfl, _, _, _, [], _, [], hW', trodAll_mk1 (shut_bool Try.underlying4 _), (trodAll_cons_mk (Below.trod laidOut (by kernel_rfl) (of_decide_eq_true (by kernel_rfl)) k0 bel lt0) (trodAll_cons_mk (Below.trod laidOut (by kernel_rfl) (of_decide_eq_true (by kernel_rfl)) k1 bel lt1) (trodAll_cons_mk (Below.trod laidOut (by kernel_rfl) (of_decide_eq_true (by kernel_rfl)) k2 bel lt2) trodAll_mk0))), rfl, bel.frame _, fun h => by cases h⟩
theorem cell_0 : ((Rows.fnExactRunCourseRow).wf (OpenSpec.ofChange Rows.fnExactRunCourseSpec)) = true := by kernel_rfl
theorem cell_1 : (laidOutB Try.prog) = true := by kernel_rfl
theorem cell_2 : (mapsRowed Try.prog) = true := by kernel_rfl
theorem cell_3 : ((Try.f7).params.all (Try.prog.readableRec ·)) = true := by kernel_rfl
theorem cell_4 : (namedTie Try.prog (Rows.fnExactRunCourseRow).named (Rows.fnExactRunCourseSpec).vars) = true := by kernel_rfl
theorem cell_5 : (((Rows.fnExactRunCourseRow).stops == [])) = true := by kernel_rfl
theorem cell_6 : ((Try.prog.stops == [])) = true := by kernel_rfl
theorem cell_7 : (((Rows.fnExactRunCourseRow).knobs == [])) = true := by kernel_rfl
theorem cell_8 : ((Try.prog.stopKnobs == [])) = true := by kernel_rfl
theorem cell_9 : (((Rows.fnExactRunCourseRow).inPlace == Try.prog.inPlace 7)) = true := by kernel_rfl
theorem cell_10 : (((Rows.fnExactRunCourseRow).unfollowed == Try.prog.unfollowed 7)) = true := by kernel_rfl
theorem cell_11 : (((Rows.fnExactRunCourseRow).recurses == Try.prog.recurses 7)) = true := by kernel_rfl
theorem cell_12 : (((Rows.fnExactRunCourseRow).named == Try.prog.varsNamed 7)) = true := by kernel_rfl
theorem cell_13 : (((Rows.fnExactRunCourseRow).maps == ((Try.f7).params.toList ++ (Rows.fnExactRunCourseSpec).plain.varTypes Try.prog).any (Try.prog.mapsRec ·))) = true := by kernel_rfl
theorem cell_14 : (((Rows.fnExactRunCourseRow).ifaces == ((Try.f7).params.toList ++ (Rows.fnExactRunCourseSpec).plain.varTypes Try.prog).any (Try.prog.ifacesRec ·))) = true := by kernel_rfl
theorem cell_15 : (((Rows.fnExactRunCourseRow).mapsOut == Try.prog.mapsAmong (Try.f7).resultTypes.toList)) = true := by kernel_rfl
theorem cell_16 : (((Rows.fnExactRunCourseRow).loops == ((Try.f7).params.toList ++ (Rows.fnExactRunCourseSpec).plain.varTypes Try.prog).any (Try.prog.loopsFrom ·))) = true := by kernel_rfl
theorem cell_17 : (((Rows.fnExactRunCourseRow).wideKeys == ((Try.f7).params.toList ++ (Rows.fnExactRunCourseSpec).plain.varTypes Try.prog ++ (Try.f7).resultTypes.toList).any (Try.prog.wideKeysFrom ·))) = true := by kernel_rfl
theorem cell_18 : ((Rows.fnExactRunCourseSpec).vars.all (Try.prog.varReadable ·)) = true := by kernel_rfl
theorem cell_19 : ((Try.f7).resultTypes.all (fun t => Try.prog.readableRec t && decide (t < Try.prog.types.size))) = true := by kernel_rfl
theorem cell_20 : (((Rows.fnExactRunCourseRow).ifacesOut == (Try.f7).resultTypes.toList.any (Try.prog.ifacesRec ·))) = true := by kernel_rfl
theorem cell_21 : (((Rows.fnExactRunCourseRow).loopsOut == (Try.f7).resultTypes.toList.any (Try.prog.loopsFrom ·))) = true := by kernel_rfl
theorem cell_22 : (((Rows.fnExactRunCourseRow).plainKeys == Try.prog.plainKeys)) = true := by kernel_rfl
theorem cell_23 : ((Rows.fnExactRunCourseRow).shortTexts.isNone) = true := by kernel_rfl
theorem cell_24 : (Try.prog.stopsHeard) = true := by kernel_rfl
theorem cell_25 : (Try.prog.mayEnter) = true := cells_enter
theorem cell_26 : (((Rows.fnExactRunCourseRow).lifted == Try.prog.liftsFinal)) = true := by have e : (Rows.fnExactRunCourseRow).lifted = false := rfl; rw [e]; exact cells_lifts
theorem cell_27 : ((Try.prog.make == some (Rows.fnExactRunCourseRow).make)) = true := by have e : (Rows.fnExactRunCourseRow).make = Make.cut := rfl; rw [e]; exact cells_make
theorem cell_29 : (((Rows.fnExactRunCourseRow).pinned == (Rows.fnExactRunCourseRow).pinnedBy)) = true := by kernel_rfl
theorem cell_30 : (((Rows.fnExactRunCourseRow).veiled == ((Try.f7).params.toList ++ (Rows.fnExactRunCourseSpec).plain.varTypes Try.prog ++ (Try.f7).resultTypes.toList).any (Try.prog.veiledRec ·))) = true := by kernel_rfl
theorem cell_31 : ((Rows.fnExactRunCourseRow).veiledFits Try.prog (Try.f7).params.toList ((Try.f7).params.toList ++ (Rows.fnExactRunCourseSpec).plain.varTypes Try.prog ++ (Try.f7).resultTypes.toList)) = true := by kernel_rfl
theorem closed : joinedFacts Try.prog 7 Try.f7 Rows.fnExactRunCourseSpec Rows.fnExactRunCourseRow = true := by
  unfold joinedFacts
  with_reducible refine (band (band (band (band (band (band (band (band (band (band (band (band (band (band (band (band (band (band (band (band (band (band (band (band (band (band (band (band (band (band (band cell_0 cell_1) cell_2) cell_3) cell_4) cell_5) cell_6) cell_7) cell_8) cell_9) cell_10) cell_11) cell_12) cell_13) cell_14) cell_15) cell_16) cell_17) cell_18) cell_19) cell_20) cell_21) cell_22) cell_23) cell_24) cell_25) cell_26) cell_27) ?h28) cell_29) cell_30) cell_31)
  kernel_rfl
theorem over : Rows.fnExactRunCourseRow.holds Try.pinned (OpenSpec.ofChange Rows.fnExactRunCourseSpec) :=
  OpenClaim.holds_of_wide 7 Try.f7 rfl rfl rfl rfl rfl rfl rfl ⟨rfl, rfl, rfl, rfl, rfl⟩ rfl rfl rfl rfl rfl (by kernel_rfl) Try.func7 closed
    (of_decide_eq_true (by kernel_rfl)) (by unfold Func.isWrapper; first | (rw [if_pos (by decide +kernel)]; kernel_rfl) | (rw [if_neg (by decide +kernel)]; exact ⟨rfl, rfl⟩))
    (fun os started H enc _ => lifted os started H enc)
end Go.Proofs.Ytibmehephlngfaa.fnExactRunCourse
namespace Go.Proofs.Ytibmehephlngfaa
theorem fnExactRunCourse_holds : Rows.FnExactRunCourseSaid := fnExactRunCourse.over
#print axioms fnExactRunCourse_holds
end Go.Proofs.Ytibmehephlngfaa
