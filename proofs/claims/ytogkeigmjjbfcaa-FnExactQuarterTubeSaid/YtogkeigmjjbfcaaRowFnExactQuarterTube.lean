/- The row of FnExactQuarterTube: for every input that can be read, the call returns true and each argument reads behind it as it read before; it comes of the printed walk and the plain law. -/
import Derived.Test.YtogkeigmjjbfcaaRows
import Derived.Test.YtogkeigmjjbfcaaQ26
import Derived.Test.YtogkeigmjjbfcaaGRow
import Derived.Test.YtogkeigmjjbfcaaPureFnExactQuarterTube
import Derived.Test.YtogkeigmjjbfcaaGCells
import Derived.WalkKit
import Derived.ProofKit
import Derived.OpenShut
import Derived.ShutString
import Derived.ChangeOld
import Derived.Below
import Derived.SizedLaws
import Derived.Carry
import Derived.ChangeSlices
import Derived.Test.YtogkeigmjjbfcaaWSized
namespace Go.Proofs.Ytogkeigmjjbfcaa.Q
open Go.RowKit Go.Joins Go.ChangeShapes Go.WideShapes Go.Proofs.YtogkeigmjjbfcaaW.PrintWords Go.Proofs.YtogkeigmjjbfcaaW.PrintLast Go.Proofs.YtogkeigmjjbfcaaW.PrintMore
namespace RowFnExactQuarterTube
theorem row_num2 : NumTy Try.prog 2 1 := num_int Try.underlying2
theorem row_num23 : NumTy Try.prog 23 2 := num_struct2 (n0 := 1) (n1 := 1) Try.underlying23 (by kernel_rfl) rfl rfl (by kernel_rfl) (by kernel_rfl) row_num2 row_num2
def mk23 (zs : List Int) : S23 := ⟨zs.getD 0 0, zs.getD 1 0⟩
theorem mk23_K (W : World) (zs : List Int) (h : zs.length = 2) : k23.K W (mk23 zs) (zs.map (Value.int .i64)) := by
  match zs, h with
  | [x0, x1], _ => exact k23_mk W ⟨x0, x1⟩
end RowFnExactQuarterTube
end Go.Proofs.Ytogkeigmjjbfcaa.Q
namespace Go.Proofs.Ytogkeigmjjbfcaa.fnExactQuarterTube
open Go.ChangeShapes Go.WideShapes Go.ChangeAt Go.RowKit Go.Proofs.Ytogkeigmjjbfcaa.Q Go.Proofs.Ytogkeigmjjbfcaa.Q.RowFnExactQuarterTube Go.Proofs.YtogkeigmjjbfcaaW.PrintWords Go.Proofs.YtogkeigmjjbfcaaW.PrintLast
open Go.ChangeMaps (open_string shut_string)
set_option linter.unusedVariables false
theorem own : ownKnob Try.prog.godebug = none := by kernel_rfl
theorem laidOut : laidOutB Try.prog = true := by kernel_rfl
set_option maxRecDepth 100000 in
theorem lifted (os : Os) (started : os.Started) (H : Type) (enc : TypeId × Value → H) :
    ReturnsInHanded {} Try.checked os 10 .any (Rows.fnExactQuarterTubeSpec.pre6 enc Try.prog Try.f10 Rows.fnExactQuarterTubeRow.domain false) (Rows.fnExactQuarterTubeSpec.post enc Try.prog Try.f10 false true false false) := by
  refine returnsInHanded_of_change_sized (C := Try.checked) own started (by kernel_rfl) Try.func10
    (ChangeSpec.witness6 (enc := enc) (C := Try.checked) false ⟨#[], #[.slice none 0 0], []⟩ 8 (by kernel_rfl) (by kernel_rfl) (by kernel_rfl) (by kernel_rfl)) ?_
  intro W base args ds gs before hval0 hW hcnd hsz0 _
  have hsz : (DataW.weightsEach Try.prog (Try.f10.params.toList ++ Rows.fnExactQuarterTubeSpec.plain.varTypes Try.prog) (ds ++ gs)).all (· ≤ reachBytes) = true := hsz0
  have hval : ∀ (j : Nat) t v, Try.f10.params[j]? = some t → args[j]? = some v → Value.okWide Try.prog W .any base t v := hval0
  have hW' := hW
  obtain ⟨p, q, hA0, hV, rfl, hfz, hnd⟩ := hW
  have hA : DataW.TrodAll enc Try.prog W 0 (fun _ => true) true Try.f10.params.toList args.toList ds p := hA0
  rw [Try.params10] at hA hval hsz
  obtain ⟨v0, vs0, d0, ds0, p0, q0, hargs, rfl, rfl, h0, r0⟩ := trodAll_cons hA
  obtain ⟨rfl, rfl, rfl⟩ := trodAll_nil r0
  obtain rfl : args = #[v0] := by cases args; simp_all
  obtain ⟨rfl, rfl⟩ := trodVars_none hV
  have k0 := h0
  have lt0 : ∀ x ∈ p0, x.block < W.heap.size := by obtain ⟨m, hm⟩ := k0; exact DataW.trod_lt m _ _ _ hm
  obtain ⟨A0, len0, cap0, l0, rfl, hlen0, hcap0, hw0, hC0⟩ : ∃ (A : Option Addr) (len cap : Nat) (l : List S23), v0 = .slice A len cap ∧ len = l.length ∧ len ≤ cap ∧ (∀ z ∈ l, (Lit.int .i64 z.f0).wf = true ∧ (Lit.int .i64 z.f1).wf = true) ∧ Kd.C k23 W A len l := by
    obtain ⟨A, len, cap, rfl⟩ := okWide_slice Try.underlying36 (hval 0 36 v0 rfl rfl)
    obtain ⟨fuel, hf⟩ := h0
    obtain ⟨A', len', cap', zz, hcs, hzl, hle, hzw, hR⟩ := open_num_rows Try.underlying36 (k := 2) (by kernel_rfl) row_num23 hf
    simp [Value.cells] at hcs
    obtain ⟨rfl, rfl, rfl⟩ := hcs
    refine ⟨A, len, cap, zz.map mk23, rfl, by simp [hzl], hle, fun z hz => ?_, rows_kd mk23 rfl mk23_K hR⟩
    obtain ⟨zs, hz1, rfl⟩ := List.mem_map.1 hz
    obtain ⟨h1, h2⟩ := hzw zs hz1
    obtain ⟨x0, x1, rfl, y0, y1⟩ := nums2 h1 h2
    exact ⟨y0, y1⟩
  subst hlen0
  have hm0 : l0.length ≤ 9223372036854775807 := hC0.2.1
  clear hA0 hval0 hsz0 hsz
  obtain ⟨k, hk⟩ := Pure.FnExactQuarterTube l0 hm0 hw0
  refine (laws_FnExactQuarterTube.calls k A0 cap0 l0 true W hC0 hcap0 hk).mono fun e W' ⟨he, bel⟩ => ?_
  subst he
  exact ⟨_, rfl, _, _, _, [], _, [], hW', trodAll_mk1 (shut_bool Try.underlying4 _), (trodAll_cons_mk (Below.trod laidOut (by kernel_rfl) (of_decide_eq_true (by kernel_rfl)) k0 bel lt0) trodAll_mk0), rfl, bel.frame _, fun h => by cases h⟩
theorem cell_0 : ((Rows.fnExactQuarterTubeRow).wf (OpenSpec.ofChange Rows.fnExactQuarterTubeSpec)) = true := by kernel_rfl
theorem cell_1 : (laidOutB Try.prog) = true := by kernel_rfl
theorem cell_2 : (mapsRowed Try.prog) = true := by kernel_rfl
theorem cell_3 : ((Try.f10).params.all (Try.prog.readableRec ·)) = true := by kernel_rfl
theorem cell_4 : (namedTie Try.prog (Rows.fnExactQuarterTubeRow).named (Rows.fnExactQuarterTubeSpec).vars) = true := by kernel_rfl
theorem cell_5 : (((Rows.fnExactQuarterTubeRow).stops == [])) = true := by kernel_rfl
theorem cell_6 : ((Try.prog.stops == [])) = true := by kernel_rfl
theorem cell_7 : (((Rows.fnExactQuarterTubeRow).knobs == [])) = true := by kernel_rfl
theorem cell_8 : ((Try.prog.stopKnobs == [])) = true := by kernel_rfl
theorem cell_9 : (((Rows.fnExactQuarterTubeRow).inPlace == Try.prog.inPlace 10)) = true := by kernel_rfl
theorem cell_10 : (((Rows.fnExactQuarterTubeRow).unfollowed == Try.prog.unfollowed 10)) = true := by kernel_rfl
theorem cell_11 : (((Rows.fnExactQuarterTubeRow).recurses == Try.prog.recurses 10)) = true := by kernel_rfl
theorem cell_12 : (((Rows.fnExactQuarterTubeRow).named == Try.prog.varsNamed 10)) = true := by kernel_rfl
theorem cell_13 : (((Rows.fnExactQuarterTubeRow).maps == ((Try.f10).params.toList ++ (Rows.fnExactQuarterTubeSpec).plain.varTypes Try.prog).any (Try.prog.mapsRec ·))) = true := by kernel_rfl
theorem cell_14 : (((Rows.fnExactQuarterTubeRow).ifaces == ((Try.f10).params.toList ++ (Rows.fnExactQuarterTubeSpec).plain.varTypes Try.prog).any (Try.prog.ifacesRec ·))) = true := by kernel_rfl
theorem cell_15 : (((Rows.fnExactQuarterTubeRow).mapsOut == Try.prog.mapsAmong (Try.f10).resultTypes.toList)) = true := by kernel_rfl
theorem cell_16 : (((Rows.fnExactQuarterTubeRow).loops == ((Try.f10).params.toList ++ (Rows.fnExactQuarterTubeSpec).plain.varTypes Try.prog).any (Try.prog.loopsFrom ·))) = true := by kernel_rfl
theorem cell_17 : (((Rows.fnExactQuarterTubeRow).wideKeys == ((Try.f10).params.toList ++ (Rows.fnExactQuarterTubeSpec).plain.varTypes Try.prog ++ (Try.f10).resultTypes.toList).any (Try.prog.wideKeysFrom ·))) = true := by kernel_rfl
theorem cell_18 : ((Rows.fnExactQuarterTubeSpec).vars.all (Try.prog.varReadable ·)) = true := by kernel_rfl
theorem cell_19 : ((Try.f10).resultTypes.all (fun t => Try.prog.readableRec t && decide (t < Try.prog.types.size))) = true := by kernel_rfl
theorem cell_20 : (((Rows.fnExactQuarterTubeRow).ifacesOut == (Try.f10).resultTypes.toList.any (Try.prog.ifacesRec ·))) = true := by kernel_rfl
theorem cell_21 : (((Rows.fnExactQuarterTubeRow).loopsOut == (Try.f10).resultTypes.toList.any (Try.prog.loopsFrom ·))) = true := by kernel_rfl
theorem cell_22 : (((Rows.fnExactQuarterTubeRow).plainKeys == Try.prog.plainKeys)) = true := by kernel_rfl
theorem cell_23 : ((Rows.fnExactQuarterTubeRow).shortTexts.isNone) = true := by kernel_rfl
theorem cell_24 : (Try.prog.stopsHeard) = true := by kernel_rfl
theorem cell_25 : (Try.prog.mayEnter) = true := cells_enter
theorem cell_26 : (((Rows.fnExactQuarterTubeRow).lifted == Try.prog.liftsFinal)) = true := by have e : (Rows.fnExactQuarterTubeRow).lifted = false := rfl; rw [e]; exact cells_lifts
theorem cell_27 : ((Try.prog.make == some (Rows.fnExactQuarterTubeRow).make)) = true := by have e : (Rows.fnExactQuarterTubeRow).make = Make.cut := rfl; rw [e]; exact cells_make
theorem cell_29 : (((Rows.fnExactQuarterTubeRow).pinned == (Rows.fnExactQuarterTubeRow).pinnedBy)) = true := by kernel_rfl
theorem cell_30 : (((Rows.fnExactQuarterTubeRow).veiled == ((Try.f10).params.toList ++ (Rows.fnExactQuarterTubeSpec).plain.varTypes Try.prog ++ (Try.f10).resultTypes.toList).any (Try.prog.veiledRec ·))) = true := by kernel_rfl
theorem cell_31 : ((Rows.fnExactQuarterTubeRow).veiledFits Try.prog (Try.f10).params.toList ((Try.f10).params.toList ++ (Rows.fnExactQuarterTubeSpec).plain.varTypes Try.prog ++ (Try.f10).resultTypes.toList)) = true := by kernel_rfl
theorem closed : joinedFacts Try.prog 10 Try.f10 Rows.fnExactQuarterTubeSpec Rows.fnExactQuarterTubeRow = true := by
  unfold joinedFacts
  with_reducible refine (band (band (band (band (band (band (band (band (band (band (band (band (band (band (band (band (band (band (band (band (band (band (band (band (band (band (band (band (band (band (band cell_0 cell_1) cell_2) cell_3) cell_4) cell_5) cell_6) cell_7) cell_8) cell_9) cell_10) cell_11) cell_12) cell_13) cell_14) cell_15) cell_16) cell_17) cell_18) cell_19) cell_20) cell_21) cell_22) cell_23) cell_24) cell_25) cell_26) cell_27) ?h28) cell_29) cell_30) cell_31)
  kernel_rfl
theorem over : Rows.fnExactQuarterTubeRow.holds Try.pinned (OpenSpec.ofChange Rows.fnExactQuarterTubeSpec) :=
  OpenClaim.holds_of_wide 10 Try.f10 rfl rfl rfl rfl rfl rfl rfl ⟨rfl, rfl, rfl, rfl, rfl⟩ rfl rfl rfl rfl rfl (by kernel_rfl) Try.func10 closed
    (of_decide_eq_true (by kernel_rfl)) (by unfold Func.isWrapper; first | (rw [if_pos (by decide +kernel)]; kernel_rfl) | (rw [if_neg (by decide +kernel)]; exact ⟨rfl, rfl⟩))
    (fun os started H enc _ => lifted os started H enc)
end Go.Proofs.Ytogkeigmjjbfcaa.fnExactQuarterTube
namespace Go.Proofs.Ytogkeigmjjbfcaa
theorem fnExactQuarterTube_holds : Rows.FnExactQuarterTubeSaid := fnExactQuarterTube.over
#print axioms fnExactQuarterTube_holds
end Go.Proofs.Ytogkeigmjjbfcaa
