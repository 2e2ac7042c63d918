/- The row of FnExactTubeText: for every input that can be read, the call returns true and each argument reads behind it as it read before; it comes of the printed walk and the plain law. -/
import Derived.Test.YtlmdoapjcnaflaaDoorRows
import Derived.Test.YtlmdoapjcnaflaaDoorGLaidW
import Derived.Test.YtlmdoapjcnaflaaDoorCards
import Derived.Test.YtlmdoapjcnaflaaDoorTie
import Derived.LaidMore
import Derived.Stop.Joined
import Derived.SevenTiedAt
import Derived.Test.YtlmdoapjcnaflaaDoorQ15
import Derived.Test.YtlmdoapjcnaflaaDoorGRow
import Derived.Test.YtlmdoapjcnaflaaDoorPureFnExactTubeText
import Derived.Test.YtlmdoapjcnaflaaDoorGCells
import Derived.WalkKit
import Derived.ProofKit
import Derived.OpenShut
import Derived.ShutString
import Derived.ChangeOld
import Derived.Below
import Derived.SizedLaws
import Derived.Carry
import Derived.ChangeSlices
import Derived.Test.YtlmdoapjcnaflaaDoorWSized
namespace Go.Proofs.YtlmdoapjcnaflaaDoor.Q
open Go.RowKit Go.Joins Go.ChangeShapes Go.WideShapes Go.Proofs.YtlmdoapjcnaflaaDoorW.PrintWords Go.Proofs.YtlmdoapjcnaflaaDoorW.PrintLast Go.Proofs.YtlmdoapjcnaflaaDoorW.PrintMore
namespace RowFnExactTubeText
theorem row_num2 : NumTy Tryd.prog 2 1 := num_int Tryd.underlying2
theorem row_num73 : NumTy Tryd.prog 73 2 := num_struct2 (n0 := 1) (n1 := 1) Tryd.underlying73 (by kernel_rfl) rfl rfl (by kernel_rfl) (by kernel_rfl) row_num2 row_num2
def mk73 (zs : List Int) : S73 := ⟨zs.getD 0 0, zs.getD 1 0⟩
theorem mk73_K (W : World) (zs : List Int) (h : zs.length = 2) : k73.K W (mk73 zs) (zs.map (Value.int .i64)) := by
  match zs, h with
  | [x0, x1], _ => exact k73_mk W ⟨x0, x1⟩
end RowFnExactTubeText
end Go.Proofs.YtlmdoapjcnaflaaDoor.Q
namespace Go.Proofs.YtlmdoapjcnaflaaDoor.fnExactTubeText
open Go.ChangeShapes Go.WideShapes Go.ChangeAt Go.RowKit Go.Proofs.YtlmdoapjcnaflaaDoor.Q Go.Proofs.YtlmdoapjcnaflaaDoor.Q.RowFnExactTubeText Go.Proofs.YtlmdoapjcnaflaaDoorW.PrintWords Go.Proofs.YtlmdoapjcnaflaaDoorW.PrintLast
open Go.ChangeMaps (open_string shut_string)
set_option linter.unusedVariables false
theorem own : ownKnob Tryd.prog.godebug = none := by kernel_rfl
theorem laidOut : laidOutB Tryd.prog = true := by kernel_rfl
theorem door_met (os : Os) (args : Array Value) : laidMetH Tryd.prog Rows.fnExactTubeTextRow.laid ((World.doorLaid Tryd.prog 72 os).forCall (fun _ _ => 0) ⟨#[], args, []⟩).memory :=
  laidMetH_of_parts3 (fuel := 8) (laidMet_of_run' 8 (by kernel_rfl) (by kernel_rfl)) (by kernel_rfl) (by kernel_rfl)
set_option maxRecDepth 100000 in
theorem lifted (os : Os) (started : os.Started) (H : Type) (enc : TypeId × Value → H) :
    ReturnsInHanded {} Tryd.checked os 6 .any (fun w args => (Rows.fnExactTubeTextSpec.pre enc Tryd.prog Tryd.f6 [] false w args ∧ laidMetH Tryd.prog Rows.fnExactTubeTextRow.laid w) ∧ sizedMet enc Tryd.prog Tryd.f6 (OpenSpec.ofChange Rows.fnExactTubeTextSpec) false w args) (Rows.fnExactTubeTextSpec.post enc Tryd.prog Tryd.f6 false true false false) := by
  refine returnsInHanded_of_change_and (C := Tryd.checked) (X := fun w _ => laidMetH Tryd.prog Rows.fnExactTubeTextRow.laid w) (fun _ _ _ hh h => h.of_heap hh) own started (by kernel_rfl) Tryd.func6
    (ChangeSpec.witness_shaped (enc := enc) (C := Tryd.checked) (os := os) (X := fun w _ => laidMetH Tryd.prog Rows.fnExactTubeTextRow.laid w) false (World.doorLaid Tryd.prog 72 os) #[.slice none 0 0] 8 rfl (World.shaped_of_RefB (by kernel_rfl) (by kernel_rfl)) (by kernel_rfl) (by kernel_rfl) (by kernel_rfl) (door_met os _)) ?_
  intro W base args ds gs before hval0 hW hcnd hsz0 hL hsh
  have hsz : (DataW.weightsEach Tryd.prog (Tryd.f6.params.toList ++ Rows.fnExactTubeTextSpec.plain.varTypes Tryd.prog) (ds ++ gs)).all (· ≤ reachBytes) = true := hsz0
  have hval : ∀ (j : Nat) t v, Tryd.f6.params[j]? = some t → args[j]? = some v → Value.okWide Tryd.prog W .any base t v := hval0
  have hW' := hW
  obtain ⟨p, q, hA0, hV, rfl, hfz, hnd⟩ := hW
  have hA : DataW.TrodAll enc Tryd.prog W 0 (fun _ => true) true Tryd.f6.params.toList args.toList ds p := hA0
  rw [Tryd.params6] at hA hval hsz
  obtain ⟨v0, vs0, d0, ds0, p0, q0, hargs, rfl, rfl, h0, r0⟩ := trodAll_cons hA
  obtain ⟨rfl, rfl, rfl⟩ := trodAll_nil r0
  obtain rfl : args = #[v0] := by cases args; simp_all
  obtain ⟨rfl, rfl⟩ := trodVars_none hV
  have k0 := h0
  have lt0 : ∀ x ∈ p0, x.block < W.heap.size := by obtain ⟨m, hm⟩ := k0; exact DataW.trod_lt m _ _ _ hm
  obtain ⟨A0, len0, cap0, l0, rfl, hlen0, hcap0, hw0, hC0⟩ : ∃ (A : Option Addr) (len cap : Nat) (l : List S73), v0 = .slice A len cap ∧ len = l.length ∧ len ≤ cap ∧ (∀ z ∈ l, (Lit.int .i64 z.f0).wf = true ∧ (Lit.int .i64 z.f1).wf = true) ∧ Kd.C k73 W A len l := by
    obtain ⟨A, len, cap, rfl⟩ := okWide_slice Tryd.underlying40 (hval 0 40 v0 rfl rfl)
    obtain ⟨fuel, hf⟩ := h0
    obtain ⟨A', len', cap', zz, hcs, hzl, hle, hzw, hR⟩ := open_num_rows Tryd.underlying40 (k := 2) (by kernel_rfl) row_num73 hf
    simp [Value.cells] at hcs
    obtain ⟨rfl, rfl, rfl⟩ := hcs
    refine ⟨A, len, cap, zz.map mk73, rfl, by simp [hzl], hle, fun z hz => ?_, rows_kd mk73 rfl mk73_K hR⟩
    obtain ⟨zs, hz1, rfl⟩ := List.mem_map.1 hz
    obtain ⟨h1, h2⟩ := hzw zs hz1
    obtain ⟨x0, x1, rfl, y0, y1⟩ := nums2 h1 h2
    exact ⟨y0, y1⟩
  subst hlen0
  have hm0 : l0.length ≤ 9223372036854775807 := hC0.2.1
  clear hA0 hval0 hsz0 hsz
  obtain ⟨k, hk⟩ := Pure.FnExactTubeText l0 hm0 hw0
  refine (laws_FnExactTubeText.calls k A0 cap0 l0 true W (libT_W hL) hC0 hcap0 hk).mono fun e W' ⟨he, bel⟩ => ?_
  subst he
  exact ⟨_, rfl, _, _, _, [], _, [], hW', trodAll_mk1 (shut_bool Tryd.underlying4 _), (trodAll_cons_mk (Below.trod laidOut (by kernel_rfl) (of_decide_eq_true (by kernel_rfl)) k0 bel lt0) trodAll_mk0), rfl, bel.frame _, fun h => by cases h⟩
theorem cell_0 : ((Rows.fnExactTubeTextRow).wf (OpenSpec.ofChange Rows.fnExactTubeTextSpec)) = true := by kernel_rfl
theorem cell_1 : (laidOutB Tryd.prog) = true := by kernel_rfl
theorem cell_2 : (mapsRowed Tryd.prog) = true := by kernel_rfl
theorem cell_3 : ((Tryd.f6).params.all (Tryd.prog.readableRec ·)) = true := by kernel_rfl
theorem cell_4 : (namedTie Tryd.prog (Rows.fnExactTubeTextRow).named (Rows.fnExactTubeTextSpec).vars) = true := by kernel_rfl
theorem cell_5 : (((Rows.fnExactTubeTextRow).stops == [])) = true := by kernel_rfl
theorem cell_6 : ((Tryd.prog.stops == [])) = true := by kernel_rfl
theorem cell_7 : (((Rows.fnExactTubeTextRow).knobs == [])) = true := by kernel_rfl
theorem cell_8 : ((Tryd.prog.stopKnobs == [])) = true := by kernel_rfl
theorem cell_9 : (((Rows.fnExactTubeTextRow).inPlace == Tryd.prog.inPlace 6)) = true := by kernel_rfl
theorem cell_10 : (((Rows.fnExactTubeTextRow).unfollowed == Tryd.prog.unfollowed 6)) = true := by kernel_rfl
theorem cell_11 : (((Rows.fnExactTubeTextRow).recurses == Tryd.prog.recurses 6)) = true := by kernel_rfl
theorem cell_12 : (((Rows.fnExactTubeTextRow).named == Tryd.prog.varsNamed 6)) = true := by kernel_rfl
theorem cell_13 : (((Rows.fnExactTubeTextRow).maps == ((Tryd.f6).params.toList ++ (Rows.fnExactTubeTextSpec).plain.varTypes Tryd.prog).any (Tryd.prog.mapsRec ·))) = true := by kernel_rfl
theorem cell_14 : (((Rows.fnExactTubeTextRow).ifaces == ((Tryd.f6).params.toList ++ (Rows.fnExactTubeTextSpec).plain.varTypes Tryd.prog).any (Tryd.prog.ifacesRec ·))) = true := by kernel_rfl
theorem cell_15 : (((Rows.fnExactTubeTextRow).mapsOut == Tryd.prog.mapsAmong (Tryd.f6).resultTypes.toList)) = true := by kernel_rfl
theorem cell_16 : (((Rows.fnExactTubeTextRow).loops == ((Tryd.f6).params.toList ++ (Rows.fnExactTubeTextSpec).plain.varTypes Tryd.prog).any (Tryd.prog.loopsFrom ·))) = true := by kernel_rfl
theorem cell_17 : (((Rows.fnExactTubeTextRow).wideKeys == ((Tryd.f6).params.toList ++ (Rows.fnExactTubeTextSpec).plain.varTypes Tryd.prog ++ (Tryd.f6).resultTypes.toList).any (Tryd.prog.wideKeysFrom ·))) = true := by kernel_rfl
theorem cell_18 : ((Rows.fnExactTubeTextSpec).vars.all (Tryd.prog.varReadable ·)) = true := by kernel_rfl
theorem cell_19 : ((Tryd.f6).resultTypes.all (fun t => Tryd.prog.readableRec t && decide (t < Tryd.prog.types.size))) = true := by kernel_rfl
theorem cell_20 : (((Rows.fnExactTubeTextRow).ifacesOut == (Tryd.f6).resultTypes.toList.any (Tryd.prog.ifacesRec ·))) = true := by kernel_rfl
theorem cell_21 : (((Rows.fnExactTubeTextRow).loopsOut == (Tryd.f6).resultTypes.toList.any (Tryd.prog.loopsFrom ·))) = true := by kernel_rfl
theorem cell_22 : (((Rows.fnExactTubeTextRow).plainKeys == Tryd.prog.plainKeys)) = true := by kernel_rfl
theorem cell_23 : ((Rows.fnExactTubeTextRow).shortTexts.isNone) = true := by kernel_rfl
theorem cell_24 : (Tryd.prog.stopsHeard) = true := by kernel_rfl
theorem cell_25 : (Tryd.prog.mayEnter) = true := cells_enter
theorem cell_26 : (((Rows.fnExactTubeTextRow).lifted == Tryd.prog.liftsFinal)) = true := by have e : (Rows.fnExactTubeTextRow).lifted = false := rfl; rw [e]; exact cells_lifts
theorem cell_27 : ((Tryd.prog.make == some (Rows.fnExactTubeTextRow).make)) = true := by have e : (Rows.fnExactTubeTextRow).make = Make.cut := rfl; rw [e]; exact cells_make
theorem cell_29 : (((Rows.fnExactTubeTextRow).pinned == (Rows.fnExactTubeTextRow).pinnedBy)) = true := by kernel_rfl
theorem cell_30 : (((Rows.fnExactTubeTextRow).veiled == ((Tryd.f6).params.toList ++ (Rows.fnExactTubeTextSpec).plain.varTypes Tryd.prog ++ (Tryd.f6).resultTypes.toList).any (Tryd.prog.veiledRec ·))) = true := by kernel_rfl
theorem cell_31 : ((Rows.fnExactTubeTextRow).veiledFits Tryd.prog (Tryd.f6).params.toList ((Tryd.f6).params.toList ++ (Rows.fnExactTubeTextSpec).plain.varTypes Tryd.prog ++ (Tryd.f6).resultTypes.toList)) = true := by kernel_rfl
theorem closed : joinedFacts Tryd.prog 6 Tryd.f6 Rows.fnExactTubeTextSpec Rows.fnExactTubeTextRow = true := by
  unfold joinedFacts
  with_reducible refine (band (band (band (band (band (band (band (band (band (band (band (band (band (band (band (band (band (band (band (band (band (band (band (band (band (band (band (band (band (band (band cell_0 cell_1) cell_2) cell_3) cell_4) cell_5) cell_6) cell_7) cell_8) cell_9) cell_10) cell_11) cell_12) cell_13) cell_14) cell_15) cell_16) cell_17) cell_18) cell_19) cell_20) cell_21) cell_22) cell_23) cell_24) cell_25) cell_26) cell_27) ?h28) cell_29) cell_30) cell_31)
  kernel_rfl
theorem over : Rows.fnExactTubeTextRow.holds Tryd.pinned (OpenSpec.ofChange Rows.fnExactTubeTextSpec) :=
  OpenClaim.holds_of_wide 6 Tryd.f6 rfl rfl rfl rfl rfl rfl rfl ⟨rfl, rfl, rfl, rfl, rfl⟩ rfl rfl rfl rfl rfl (by kernel_rfl) Tryd.func6 closed
    (of_decide_eq_true (by kernel_rfl)) (by unfold Func.isWrapper; first | (rw [if_pos (by decide +kernel)]; kernel_rfl) | (rw [if_neg (by decide +kernel)]; exact ⟨rfl, rfl⟩))
    (fun os started H enc _ => lifted os started H enc)
end Go.Proofs.YtlmdoapjcnaflaaDoor.fnExactTubeText
namespace Go.Proofs.YtlmdoapjcnaflaaDoor
theorem fnExactTubeText_row : Rows.FnExactTubeTextSaid := fnExactTubeText.over
theorem fnExactTubeText_params : Tryd.f6.params.toList.all (fun u => !Tryd.prog.wantsStandIn u) = true := by kernel_rfl
theorem fnExactTubeText_holds : Rows.FnExactTubeTextCardSaid :=
  Claim7.holds_tied_plain_at .later [] [.data, .data, .data] true (true, "87a8fd45861a9ccb6b3a6cc8f5f09f9aa36f06efd4b3113846982b85e1f9e713") true
    fnExactTubeText_row (fun _ h => by cases h) (by kernel_rfl) (fun _ h => by cases h) fnExactTubeText_row_tie rfl ⟨rfl, rfl⟩ (by kernel_rfl) rfl
    (fun f fn hf hfn => by
      obtain rfl : f = 6 := Option.some.inj ((show Tryd.prog.funcNamed "loop.example/g01099/laws.FnExactTubeText" = some 6 by kernel_rfl).symm.trans hf) |>.symm
      obtain rfl : fn = Tryd.f6 := (Option.some.inj (Tryd.func6.symm.trans hfn)).symm
      exact ⟨by kernel_rfl, fun j t ht => by
        have hm : t ∈ Tryd.f6.params.toList := by simpa using Array.mem_of_getElem? ht
        exact (show Tryd.prog.wantsStandIn t = false by simpa using List.all_eq_true.1 fnExactTubeText_params t hm)⟩)
    (by kernel_rfl)
#print axioms fnExactTubeText_holds
end Go.Proofs.YtlmdoapjcnaflaaDoor
