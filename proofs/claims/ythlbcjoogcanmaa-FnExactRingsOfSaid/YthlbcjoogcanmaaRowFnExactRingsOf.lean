/- The row of FnExactRingsOf: for every input that can be read, the call returns true and each argument reads behind it as it read before; it comes of the printed walk and the plain law. -/
import Derived.Test.YthlbcjoogcanmaaRows
import Derived.Test.YthlbcjoogcanmaaQ31
import Derived.Test.YthlbcjoogcanmaaGRowS
import Derived.Test.YthlbcjoogcanmaaPureFnExactRingsOf
import Derived.Test.YthlbcjoogcanmaaGCells
import Derived.WalkKit
import Derived.ProofKit
import Derived.OpenShut
import Derived.ShutString
import Derived.ChangeOld
import Derived.Below
import Derived.SizedLaws
import Derived.Carry
import Derived.ChangeSlices
import Derived.Test.YthlbcjoogcanmaaWSized
namespace Go.Proofs.Ythlbcjoogcanmaa.Q
open Go.RowKit Go.Joins Go.ChangeShapes Go.WideShapes Go.Proofs.YthlbcjoogcanmaaW.PrintWords Go.Proofs.YthlbcjoogcanmaaW.PrintLast Go.Proofs.YthlbcjoogcanmaaW.PrintMore
namespace RowFnExactRingsOf
theorem row_num2 : NumTy Try.prog 2 1 := num_int Try.underlying2
theorem row_num23 : NumTy Try.prog 23 4 := num_struct4 (n0 := 1) (n1 := 1) (n2 := 1) (n3 := 1) Try.underlying23 (by kernel_rfl) rfl rfl rfl rfl (by kernel_rfl) (by kernel_rfl) (by kernel_rfl) (by kernel_rfl) row_num2 row_num2 row_num2 row_num2
theorem row_num118 : NumTy Try.prog 118 3 := num_struct3 (n0 := 1) (n1 := 1) (n2 := 1) Try.underlying118 (by kernel_rfl) rfl rfl rfl (by kernel_rfl) (by kernel_rfl) (by kernel_rfl) row_num2 row_num2 row_num2
def mk118 (zs : List Int) : S118 := ⟨zs.getD 0 0, zs.getD 1 0, zs.getD 2 0⟩
theorem mk118_K (W : World) (zs : List Int) (h : zs.length = 3) : k118.K W (mk118 zs) (zs.map (Value.int .i64)) := by
  match zs, h with
  | [x0, x1, x2], _ => exact k118_mk W ⟨x0, x1, x2⟩
end RowFnExactRingsOf
end Go.Proofs.Ythlbcjoogcanmaa.Q
namespace Go.Proofs.Ythlbcjoogcanmaa.fnExactRingsOf
open Go.ChangeShapes Go.WideShapes Go.ChangeAt Go.RowKit Go.Proofs.Ythlbcjoogcanmaa.Q Go.Proofs.Ythlbcjoogcanmaa.Q.RowFnExactRingsOf Go.Proofs.YthlbcjoogcanmaaW.PrintWords Go.Proofs.YthlbcjoogcanmaaW.PrintLast
open Go.ChangeMaps (open_string shut_string)
set_option linter.unusedVariables false
theorem own : ownKnob Try.prog.godebug = none := by kernel_rfl
theorem laidOut : laidOutB Try.prog = true := by kernel_rfl
set_option maxRecDepth 100000 in
theorem lifted (os : Os) (started : os.Started) (H : Type) (enc : TypeId × Value → H) :
    ReturnsInHanded {} Try.checked os 6 .any (Rows.fnExactRingsOfSpec.pre6 enc Try.prog Try.f6 Rows.fnExactRingsOfRow.domain false) (Rows.fnExactRingsOfSpec.post enc Try.prog Try.f6 false true false false) := by
  refine returnsInHanded_of_change_sized (C := Try.checked) own started (by kernel_rfl) Try.func6
    (ChangeSpec.witness6 (enc := enc) (C := Try.checked) false ⟨#[], #[.agg #[.int .i64 0, .int .i64 0, .int .i64 0, .int .i64 0, .slice none 0 0]], []⟩ 8 (by kernel_rfl) (by kernel_rfl) (by kernel_rfl) (by kernel_rfl)) ?_
  intro W base args ds gs before hval0 hW hcnd hsz0 _
  have hsz : (DataW.weightsEach Try.prog (Try.f6.params.toList ++ Rows.fnExactRingsOfSpec.plain.varTypes Try.prog) (ds ++ gs)).all (· ≤ reachBytes) = true := hsz0
  have hval : ∀ (j : Nat) t v, Try.f6.params[j]? = some t → args[j]? = some v → Value.okWide Try.prog W .any base t v := hval0
  have hW' := hW
  obtain ⟨p, q, hA0, hV, rfl, hfz, hnd⟩ := hW
  have hA : DataW.TrodAll enc Try.prog W 0 (fun _ => true) true Try.f6.params.toList args.toList ds p := hA0
  rw [Try.params6] at hA hval hsz
  obtain ⟨v0, vs0, d0, ds0, p0, q0, hargs, rfl, rfl, h0, r0⟩ := trodAll_cons hA
  obtain ⟨rfl, rfl, rfl⟩ := trodAll_nil r0
  obtain rfl : args = #[v0] := by cases args; simp_all
  obtain ⟨rfl, rfl⟩ := trodVars_none hV
  have k0 := h0
  have lt0 : ∀ x ∈ p0, x.block < W.heap.size := by obtain ⟨m, hm⟩ := k0; exact DataW.trod_lt m _ _ _ hm
  obtain ⟨zs0, A0, len0, cap0, zz0, rfl, zl0, zw0, hzl0, hle0, hzw0, hR0⟩ := open_nums_rows (n0 := 4) (k := 3) Try.underlying34 (by kernel_rfl) rfl rfl (by kernel_rfl) (by kernel_rfl) row_num23 Try.underlying32 (by kernel_rfl) row_num118 (hval 0 34 v0 rfl rfl) h0
  obtain ⟨a0_0, a0_1, a0_2, a0_3, rfl, w0_0, w0_1, w0_2, w0_3⟩ := nums4 zl0 zw0
  obtain ⟨l0, hll0, hw0, hC0⟩ : ∃ l : List S118, len0 = l.length ∧ (∀ z ∈ l, (Lit.int .i64 z.f0).wf = true ∧ (Lit.int .i64 z.f1).wf = true ∧ (Lit.int .i64 z.f2).wf = true) ∧ Kd.C k118 W A0 len0 l := by
    refine ⟨zz0.map mk118, by simp [hzl0], fun z hz => ?_, rows_kd mk118 rfl mk118_K hR0⟩
    obtain ⟨zs, hz1, rfl⟩ := List.mem_map.1 hz
    obtain ⟨h1, h2⟩ := hzw0 zs hz1
    obtain ⟨x0, x1, x2, rfl, y0, y1, y2⟩ := nums3 h1 h2
    exact ⟨y0, y1, y2⟩
  subst hll0
  have hm0 : l0.length ≤ 9223372036854775807 := hC0.2.1
  clear hA0 hval0 hsz0 hsz
  obtain ⟨k, hk⟩ := Pure.FnExactRingsOf a0_0 a0_1 a0_2 a0_3 l0 w0_0 w0_1 w0_2 w0_3 hm0 hw0
  refine (laws_FnExactRingsOf.calls k a0_0 a0_1 a0_2 a0_3 A0 cap0 l0 true W hC0 hle0 hk).mono fun e W' ⟨he, bel⟩ => ?_
  subst he
  exact ⟨_, rfl, _, _, _, [], _, [], hW', trodAll_mk1 (shut_bool Try.underlying4 _), (trodAll_cons_mk (Below.trod laidOut (by kernel_rfl) (of_decide_eq_true (by kernel_rfl)) k0 bel lt0) trodAll_mk0), rfl, bel.frame _, fun h => by cases h⟩
theorem cell_0 : ((Rows.fnExactRingsOfRow).wf (OpenSpec.ofChange Rows.fnExactRingsOfSpec)) = true := by kernel_rfl
theorem cell_1 : (laidOutB Try.prog) = true := by kernel_rfl
theorem cell_2 : (mapsRowed Try.prog) = true := by kernel_rfl
theorem cell_3 : ((Try.f6).params.all (Try.prog.readableRec ·)) = true := by kernel_rfl
theorem cell_4 : (namedTie Try.prog (Rows.fnExactRingsOfRow).named (Rows.fnExactRingsOfSpec).vars) = true := by kernel_rfl
theorem cell_5 : (((Rows.fnExactRingsOfRow).stops == [])) = true := by kernel_rfl
theorem cell_6 : ((Try.prog.stops == [])) = true := by kernel_rfl
theorem cell_7 : (((Rows.fnExactRingsOfRow).knobs == [])) = true := by kernel_rfl
theorem cell_8 : ((Try.prog.stopKnobs == [])) = true := by kernel_rfl
theorem cell_9 : (((Rows.fnExactRingsOfRow).inPlace == Try.prog.inPlace 6)) = true := by kernel_rfl
theorem cell_10 : (((Rows.fnExactRingsOfRow).unfollowed == Try.prog.unfollowed 6)) = true := by kernel_rfl
theorem cell_11 : (((Rows.fnExactRingsOfRow).recurses == Try.prog.recurses 6)) = true := by kernel_rfl
theorem cell_12 : (((Rows.fnExactRingsOfRow).named == Try.prog.varsNamed 6)) = true := by kernel_rfl
theorem cell_13 : (((Rows.fnExactRingsOfRow).maps == ((Try.f6).params.toList ++ (Rows.fnExactRingsOfSpec).plain.varTypes Try.prog).any (Try.prog.mapsRec ·))) = true := by kernel_rfl
theorem cell_14 : (((Rows.fnExactRingsOfRow).ifaces == ((Try.f6).params.toList ++ (Rows.fnExactRingsOfSpec).plain.varTypes Try.prog).any (Try.prog.ifacesRec ·))) = true := by kernel_rfl
theorem cell_15 : (((Rows.fnExactRingsOfRow).mapsOut == Try.prog.mapsAmong (Try.f6).resultTypes.toList)) = true := by kernel_rfl
theorem cell_16 : (((Rows.fnExactRingsOfRow).loops == ((Try.f6).params.toList ++ (Rows.fnExactRingsOfSpec).plain.varTypes Try.prog).any (Try.prog.loopsFrom ·))) = true := by kernel_rfl
theorem cell_17 : (((Rows.fnExactRingsOfRow).wideKeys == ((Try.f6).params.toList ++ (Rows.fnExactRingsOfSpec).plain.varTypes Try.prog ++ (Try.f6).resultTypes.toList).any (Try.prog.wideKeysFrom ·))) = true := by kernel_rfl
theorem cell_18 : ((Rows.fnExactRingsOfSpec).vars.all (Try.prog.varReadable ·)) = true := by kernel_rfl
theorem cell_19 : ((Try.f6).resultTypes.all (fun t => Try.prog.readableRec t && decide (t < Try.prog.types.size))) = true := by kernel_rfl
theorem cell_20 : (((Rows.fnExactRingsOfRow).ifacesOut == (Try.f6).resultTypes.toList.any (Try.prog.ifacesRec ·))) = true := by kernel_rfl
theorem cell_21 : (((Rows.fnExactRingsOfRow).loopsOut == (Try.f6).resultTypes.toList.any (Try.prog.loopsFrom ·))) = true := by kernel_rfl
theorem cell_22 : (((Rows.fnExactRingsOfRow).plainKeys == Try.prog.plainKeys)) = true := by kernel_rfl
theorem cell_23 : ((Rows.fnExactRingsOfRow).shortTexts.isNone) = true := by kernel_rfl
theorem cell_24 : (Try.prog.stopsHeard) = true := by kernel_rfl
theorem cell_25 : (Try.prog.mayEnter) = true := cells_enter
theorem cell_26 : (((Rows.fnExactRingsOfRow).lifted == Try.prog.liftsFinal)) = true := by have e : (Rows.fnExactRingsOfRow).lifted = false := rfl; rw [e]; exact cells_lifts
theorem cell_27 : ((Try.prog.make == some (Rows.fnExactRingsOfRow).make)) = true := by have e : (Rows.fnExactRingsOfRow).make = Make.cut := rfl; rw [e]; exact cells_make
theorem cell_29 : (((Rows.fnExactRingsOfRow).pinned == (Rows.fnExactRingsOfRow).pinnedBy)) = true := by kernel_rfl
theorem cell_30 : (((Rows.fnExactRingsOfRow).veiled == ((Try.f6).params.toList ++ (Rows.fnExactRingsOfSpec).plain.varTypes Try.prog ++ (Try.f6).resultTypes.toList).any (Try.prog.veiledRec ·))) = true := by kernel_rfl
theorem cell_31 : ((Rows.fnExactRingsOfRow).veiledFits Try.prog (Try.f6).params.toList ((Try.f6).params.toList ++ (Rows.fnExactRingsOfSpec).plain.varTypes Try.prog ++ (Try.f6).resultTypes.toList)) = true := by kernel_rfl
theorem closed : joinedFacts Try.prog 6 Try.f6 Rows.fnExactRingsOfSpec Rows.fnExactRingsOfRow = true := by
  unfold joinedFacts
  with_reducible refine (band (band (band (band (band (band (band (band (band (band (band (band (band (band (band (band (band (band (band (band (band (band (band (band (band (band (band (band (band (band (band cell_0 cell_1) cell_2) cell_3) cell_4) cell_5) cell_6) cell_7) cell_8) cell_9) cell_10) cell_11) cell_12) cell_13) cell_14) cell_15) cell_16) cell_17) cell_18) cell_19) cell_20) cell_21) cell_22) cell_23) cell_24) cell_25) cell_26) cell_27) ?h28) cell_29) cell_30) cell_31)
  kernel_rfl
theorem over : Rows.fnExactRingsOfRow.holds Try.pinned (OpenSpec.ofChange Rows.fnExactRingsOfSpec) :=
  OpenClaim.holds_of_wide 6 Try.f6 rfl rfl rfl rfl rfl rfl rfl ⟨rfl, rfl, rfl, rfl, rfl⟩ rfl rfl rfl rfl rfl (by kernel_rfl) Try.func6 closed
    (of_decide_eq_true (by kernel_rfl)) (by unfold Func.isWrapper; first | (rw [if_pos (by decide +kernel)]; kernel_rfl) | (rw [if_neg (by decide +kernel)]; exact ⟨rfl, rfl⟩))
    (fun os started H enc _ => lifted os started H enc)
end Go.Proofs.Ythlbcjoogcanmaa.fnExactRingsOf
namespace Go.Proofs.Ythlbcjoogcanmaa
theorem fnExactRingsOf_holds : Rows.FnExactRingsOfSaid := fnExactRingsOf.over
#print axioms fnExactRingsOf_holds
end Go.Proofs.Ythlbcjoogcanmaa
