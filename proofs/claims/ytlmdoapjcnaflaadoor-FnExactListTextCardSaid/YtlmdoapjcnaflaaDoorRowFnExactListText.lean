/- The row of FnExactListText: for every input that can be read, the call returns true and each argument reads behind it as it read before; it comes of the printed walk and the plain law. -/
import Derived.Test.YtlmdoapjcnaflaaDoorRows
import Derived.Test.YtlmdoapjcnaflaaDoorGLaidW
import Derived.Test.YtlmdoapjcnaflaaDoorCards
import Derived.Test.YtlmdoapjcnaflaaDoorTie
import Derived.LaidMore
import Derived.Stop.Joined
import Derived.SevenTiedAt
import Derived.Test.YtlmdoapjcnaflaaDoorQ13
import Derived.Test.YtlmdoapjcnaflaaDoorGRow
import Derived.Test.YtlmdoapjcnaflaaDoorPureFnExactListText
import Derived.Test.YtlmdoapjcnaflaaDoorGCells
import Derived.WalkKit
import Derived.ProofKit
import Derived.OpenShut
import Derived.ShutString
import Derived.ChangeOld
import Derived.Below
import Derived.SizedLaws
import Derived.Carry
import Derived.ChangeSlices
import Derived.Test.YtlmdoapjcnaflaaDoorWSized
namespace Go.Proofs.YtlmdoapjcnaflaaDoor.Q
open Go.RowKit Go.Joins Go.ChangeShapes Go.WideShapes Go.Proofs.YtlmdoapjcnaflaaDoorW.PrintWords Go.Proofs.YtlmdoapjcnaflaaDoorW.PrintLast Go.Proofs.YtlmdoapjcnaflaaDoorW.PrintMore
namespace RowFnExactListText
end RowFnExactListText
end Go.Proofs.YtlmdoapjcnaflaaDoor.Q
namespace Go.Proofs.YtlmdoapjcnaflaaDoor.fnExactListText
open Go.ChangeShapes Go.WideShapes Go.ChangeAt Go.RowKit Go.Proofs.YtlmdoapjcnaflaaDoor.Q Go.Proofs.YtlmdoapjcnaflaaDoor.Q.RowFnExactListText Go.Proofs.YtlmdoapjcnaflaaDoorW.PrintWords Go.Proofs.YtlmdoapjcnaflaaDoorW.PrintLast
open Go.ChangeMaps (open_string shut_string)
set_option linter.unusedVariables false
theorem own : ownKnob Tryd.prog.godebug = none := by kernel_rfl
theorem laidOut : laidOutB Tryd.prog = true := by kernel_rfl
theorem door_met (os : Os) (args : Array Value) : laidMetH Tryd.prog Rows.fnExactListTextRow.laid ((World.doorLaid Tryd.prog 72 os).forCall (fun _ _ => 0) ⟨#[], args, []⟩).memory :=
  laidMetH_of_parts3 (fuel := 8) (laidMet_of_run' 8 (by kernel_rfl) (by kernel_rfl)) (by kernel_rfl) (by kernel_rfl)
set_option maxRecDepth 100000 in
theorem lifted (os : Os) (started : os.Started) (H : Type) (enc : TypeId × Value → H) :
    ReturnsInHanded {} Tryd.checked os 4 .any (fun w args => (Rows.fnExactListTextSpec.pre enc Tryd.prog Tryd.f4 [] false w args ∧ laidMetH Tryd.prog Rows.fnExactListTextRow.laid w) ∧ sizedMet enc Tryd.prog Tryd.f4 (OpenSpec.ofChange Rows.fnExactListTextSpec) false w args) (Rows.fnExactListTextSpec.post enc Tryd.prog Tryd.f4 false true false false) := by
  refine returnsInHanded_of_change_and (C := Tryd.checked) (X := fun w _ => laidMetH Tryd.prog Rows.fnExactListTextRow.laid w) (fun _ _ _ hh h => h.of_heap hh) own started (by kernel_rfl) Tryd.func4
    (ChangeSpec.witness_shaped (enc := enc) (C := Tryd.checked) (os := os) (X := fun w _ => laidMetH Tryd.prog Rows.fnExactListTextRow.laid w) false (World.doorLaid Tryd.prog 72 os) #[.slice none 0 0] 8 rfl (World.shaped_of_RefB (by kernel_rfl) (by kernel_rfl)) (by kernel_rfl) (by kernel_rfl) (by kernel_rfl) (door_met os _)) ?_
  intro W base args ds gs before hval0 hW hcnd hsz0 hL hsh
  have hsz : (DataW.weightsEach Tryd.prog (Tryd.f4.params.toList ++ Rows.fnExactListTextSpec.plain.varTypes Tryd.prog) (ds ++ gs)).all (· ≤ reachBytes) = true := hsz0
  have hval : ∀ (j : Nat) t v, Tryd.f4.params[j]? = some t → args[j]? = some v → Value.okWide Tryd.prog W .any base t v := hval0
  have hW' := hW
  obtain ⟨p, q, hA0, hV, rfl, hfz, hnd⟩ := hW
  have hA : DataW.TrodAll enc Tryd.prog W 0 (fun _ => true) true Tryd.f4.params.toList args.toList ds p := hA0
  rw [Tryd.params4] at hA hval hsz
  obtain ⟨v0, vs0, d0, ds0, p0, q0, hargs, rfl, rfl, h0, r0⟩ := trodAll_cons hA
  obtain ⟨rfl, rfl, rfl⟩ := trodAll_nil r0
  obtain rfl : args = #[v0] := by cases args; simp_all
  obtain ⟨rfl, rfl⟩ := trodVars_none hV
  have k0 := h0
  have lt0 : ∀ x ∈ p0, x.block < W.heap.size := by obtain ⟨m, hm⟩ := k0; exact DataW.trod_lt m _ _ _ hm
  obtain ⟨A0, len0, cap0, rfl⟩ := okWide_slice Tryd.underlying24 (hval 0 24 v0 rfl rfl)
  obtain ⟨l0, hlen0, hcap0, hC0, hw0⟩ : ∃ l : List Int, len0 = l.length ∧ len0 ≤ cap0 ∧ Kd.C (Kd.int .i64) W A0 len0 l ∧ ∀ z ∈ l, (Lit.int .i64 z).wf = true := by
    obtain ⟨fuel, hf⟩ := h0
    rcases open_ints Tryd.underlying24 Tryd.underlying2 (by kernel_rfl) hf with ⟨hcs, _⟩ | ⟨x, l, c, zs, hcs, _, hl, hm, hz, _, hcell, hwz⟩
    · simp [Value.cells] at hcs
      obtain ⟨rfl, rfl, rfl⟩ := hcs
      exact ⟨[], rfl, Nat.le_refl _, Kd.C_of_reads (d := (0 : Int)) (h1 := fun _ => rfl) ⟨rfl, by omega, fun hn => absurd hn (by omega)⟩, by simp⟩
    · simp [Value.cells] at hcs
      obtain ⟨rfl, rfl, rfl⟩ := hcs
      have hle : len0 ≤ zs.length := by simp at hz; omega
      refine ⟨zs.take len0, by simp; omega, hl, ?_, fun z hz2 => hwz z (List.mem_of_mem_take hz2)⟩
      refine Kd.C_of_reads (d := (0 : Int)) (h1 := fun _ => rfl) ⟨by simp; omega, by unfold maxLen at hm; omega, fun hn => ⟨x, rfl, fun j hj => ?_⟩⟩
      have h2 := hcell j (by omega)
      rw [h2]
      congr 2
      simp [List.getD, hj]
  subst hlen0
  have hm0 : l0.length ≤ 9223372036854775807 := hC0.2.1
  clear hA0 hval0 hsz0 hsz
  obtain ⟨k, hk⟩ := Pure.FnExactListText l0 hm0 hw0
  refine (laws_FnExactListText.calls k A0 cap0 l0 true W (libT_W hL) hC0 hcap0 hk).mono fun e W' ⟨he, bel⟩ => ?_
  subst he
  exact ⟨_, rfl, _, _, _, [], _, [], hW', trodAll_mk1 (shut_bool Tryd.underlying4 _), (trodAll_cons_mk (Below.trod laidOut (by kernel_rfl) (of_decide_eq_true (by kernel_rfl)) k0 bel lt0) trodAll_mk0), rfl, bel.frame _, fun h => by cases h⟩
theorem cell_0 : ((Rows.fnExactListTextRow).wf (OpenSpec.ofChange Rows.fnExactListTextSpec)) = true := by kernel_rfl
theorem cell_1 : (laidOutB Tryd.prog) = true := by kernel_rfl
theorem cell_2 : (mapsRowed Tryd.prog) = true := by kernel_rfl
theorem cell_3 : ((Tryd.f4).params.all (Tryd.prog.readableRec ·)) = true := by kernel_rfl
theorem cell_4 : (namedTie Tryd.prog (Rows.fnExactListTextRow).named (Rows.fnExactListTextSpec).vars) = true := by kernel_rfl
theorem cell_5 : (((Rows.fnExactListTextRow).stops == [])) = true := by kernel_rfl
theorem cell_6 : ((Tryd.prog.stops == [])) = true := by kernel_rfl
theorem cell_7 : (((Rows.fnExactListTextRow).knobs == [])) = true := by kernel_rfl
theorem cell_8 : ((Tryd.prog.stopKnobs == [])) = true := by kernel_rfl
theorem cell_9 : (((Rows.fnExactListTextRow).inPlace == Tryd.prog.inPlace 4)) = true := by kernel_rfl
theorem cell_10 : (((Rows.fnExactListTextRow).unfollowed == Tryd.prog.unfollowed 4)) = true := by kernel_rfl
theorem cell_11 : (((Rows.fnExactListTextRow).recurses == Tryd.prog.recurses 4)) = true := by kernel_rfl
theorem cell_12 : (((Rows.fnExactListTextRow).named == Tryd.prog.varsNamed 4)) = true := by kernel_rfl
theorem cell_13 : (((Rows.fnExactListTextRow).maps == ((Tryd.f4).params.toList ++ (Rows.fnExactListTextSpec).plain.varTypes Tryd.prog).any (Tryd.prog.mapsRec ·))) = true := by kernel_rfl
theorem cell_14 : (((Rows.fnExactListTextRow).ifaces == ((Tryd.f4).params.toList ++ (Rows.fnExactListTextSpec).plain.varTypes Tryd.prog).any (Tryd.prog.ifacesRec ·))) = true := by kernel_rfl
theorem cell_15 : (((Rows.fnExactListTextRow).mapsOut == Tryd.prog.mapsAmong (Tryd.f4).resultTypes.toList)) = true := by kernel_rfl
theorem cell_16 : (((Rows.fnExactListTextRow).loops == ((Tryd.f4).params.toList ++ (Rows.fnExactListTextSpec).plain.varTypes Tryd.prog).any (Tryd.prog.loopsFrom ·))) = true := by kernel_rfl
theorem cell_17 : (((Rows.fnExactListTextRow).wideKeys == ((Tryd.f4).params.toList ++ (Rows.fnExactListTextSpec).plain.varTypes Tryd.prog ++ (Tryd.f4).resultTypes.toList).any (Tryd.prog.wideKeysFrom ·))) = true := by kernel_rfl
theorem cell_18 : ((Rows.fnExactListTextSpec).vars.all (Tryd.prog.varReadable ·)) = true := by kernel_rfl
theorem cell_19 : ((Tryd.f4).resultTypes.all (fun t => Tryd.prog.readableRec t && decide (t < Tryd.prog.types.size))) = true := by kernel_rfl
theorem cell_20 : (((Rows.fnExactListTextRow).ifacesOut == (Tryd.f4).resultTypes.toList.any (Tryd.prog.ifacesRec ·))) = true := by kernel_rfl
theorem cell_21 : (((Rows.fnExactListTextRow).loopsOut == (Tryd.f4).resultTypes.toList.any (Tryd.prog.loopsFrom ·))) = true := by kernel_rfl
theorem cell_22 : (((Rows.fnExactListTextRow).plainKeys == Tryd.prog.plainKeys)) = true := by kernel_rfl
theorem cell_23 : ((Rows.fnExactListTextRow).shortTexts.isNone) = true := by kernel_rfl
theorem cell_24 : (Tryd.prog.stopsHeard) = true := by kernel_rfl
theorem cell_25 : (Tryd.prog.mayEnter) = true := cells_enter
theorem cell_26 : (((Rows.fnExactListTextRow).lifted == Tryd.prog.liftsFinal)) = true := by have e : (Rows.fnExactListTextRow).lifted = false := rfl; rw [e]; exact cells_lifts
theorem cell_27 : ((Tryd.prog.make == some (Rows.fnExactListTextRow).make)) = true := by have e : (Rows.fnExactListTextRow).make = Make.cut := rfl; rw [e]; exact cells_make
theorem cell_29 : (((Rows.fnExactListTextRow).pinned == (Rows.fnExactListTextRow).pinnedBy)) = true := by kernel_rfl
theorem cell_30 : (((Rows.fnExactListTextRow).veiled == ((Tryd.f4).params.toList ++ (Rows.fnExactListTextSpec).plain.varTypes Tryd.prog ++ (Tryd.f4).resultTypes.toList).any (Tryd.prog.veiledRec ·))) = true := by kernel_rfl
theorem cell_31 : ((Rows.fnExactListTextRow).veiledFits Tryd.prog (Tryd.f4).params.toList ((Tryd.f4).params.toList ++ (Rows.fnExactListTextSpec).plain.varTypes Tryd.prog ++ (Tryd.f4).resultTypes.toList)) = true := by kernel_rfl
theorem closed : joinedFacts Tryd.prog 4 Tryd.f4 Rows.fnExactListTextSpec Rows.fnExactListTextRow = true := by
  unfold joinedFacts
  with_reducible refine (band (band (band (band (band (band (band (band (band (band (band (band (band (band (band (band (band (band (band (band (band (band (band (band (band (band (band (band (band (band (band cell_0 cell_1) cell_2) cell_3) cell_4) cell_5) cell_6) cell_7) cell_8) cell_9) cell_10) cell_11) cell_12) cell_13) cell_14) cell_15) cell_16) cell_17) cell_18) cell_19) cell_20) cell_21) cell_22) cell_23) cell_24) cell_25) cell_26) cell_27) ?h28) cell_29) cell_30) cell_31)
  kernel_rfl
theorem over : Rows.fnExactListTextRow.holds Tryd.pinned (OpenSpec.ofChange Rows.fnExactListTextSpec) :=
  OpenClaim.holds_of_wide 4 Tryd.f4 rfl rfl rfl rfl rfl rfl rfl ⟨rfl, rfl, rfl, rfl, rfl⟩ rfl rfl rfl rfl rfl (by kernel_rfl) Tryd.func4 closed
    (of_decide_eq_true (by kernel_rfl)) (by unfold Func.isWrapper; first | (rw [if_pos (by decide +kernel)]; kernel_rfl) | (rw [if_neg (by decide +kernel)]; exact ⟨rfl, rfl⟩))
    (fun os started H enc _ => lifted os started H enc)
end Go.Proofs.YtlmdoapjcnaflaaDoor.fnExactListText
namespace Go.Proofs.YtlmdoapjcnaflaaDoor
theorem fnExactListText_row : Rows.FnExactListTextSaid := fnExactListText.over
theorem fnExactListText_params : Tryd.f4.params.toList.all (fun u => !Tryd.prog.wantsStandIn u) = true := by kernel_rfl
theorem fnExactListText_holds : Rows.FnExactListTextCardSaid :=
  Claim7.holds_tied_plain_at .later [] [.data, .data, .data] true (true, "87a8fd45861a9ccb6b3a6cc8f5f09f9aa36f06efd4b3113846982b85e1f9e713") true
    fnExactListText_row (fun _ h => by cases h) (by kernel_rfl) (fun _ h => by cases h) fnExactListText_row_tie rfl ⟨rfl, rfl⟩ (by kernel_rfl) rfl
    (fun f fn hf hfn => by
      obtain rfl : f = 4 := Option.some.inj ((show Tryd.prog.funcNamed "loop.example/g01099/laws.FnExactListText" = some 4 by kernel_rfl).symm.trans hf) |>.symm
      obtain rfl : fn = Tryd.f4 := (Option.some.inj (Tryd.func4.symm.trans hfn)).symm
      exact ⟨by kernel_rfl, fun j t ht => by
        have hm : t ∈ Tryd.f4.params.toList := by simpa using Array.mem_of_getElem? ht
        exact (show Tryd.prog.wantsStandIn t = false by simpa using List.all_eq_true.1 fnExactListText_params t hm)⟩)
    (by kernel_rfl)
#print axioms fnExactListText_holds
end Go.Proofs.YtlmdoapjcnaflaaDoor
