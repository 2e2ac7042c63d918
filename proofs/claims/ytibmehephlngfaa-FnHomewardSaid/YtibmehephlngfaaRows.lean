/-
  No cell of these rows narrows 'for every input' (looked for: loops, veiled, ifaces, maps, wideKeys, modest, calm, conditions, laid).
  DERIVED. THE GIVEN ROWS OF THIS SEAT. 10 by the template 'for every input the law returns true; each argument reads behind the call as it read before'; 0 by the template 'total and deterministic' (their statements: YtibmehephlngfaaTotals.lean).
  GIVEN WITH THE SEED: the statements are not yours to turn. If you find one false, say at which input.
  Laid BY PROGRAM, IN A SANDBOX (cutbox-rows.mjs): the forced cells as the released guide's own fill.sh prints them over the translation 7e1ae951ca0b82bc… (all of the seat's roots in one cut). By AI agents, Wed Nov 11 2026. No macro, syntax, notation, axiom, sorry.
-/
import Derived.Test.YtibmehephlngfaaChecked
import GoSem.Claim
import GoSem.ClaimJoined
import GoSem.ClaimMapViews
import Derived.JoinedTies
import Derived.KernelRfl
namespace Go.Proofs.Ytibmehephlngfaa
/- THE CELL 'sum', in the pinned program and in every row, IS THE sha256 OF THE DUMP (.gsa) THAT YtibmehephlngfaaProg.lean LOADS. Nothing in Lean hashes anything: it is a label: what it is worth is what the hold of that sum in a sandbox is worth. -/
noncomputable def Try.pinned : Pinned := { name := "ytibmehephlngfaa", sum := "7e1ae951ca0b82bc08b2cbda970e19f646b31c3cc86717869ab2aaa1e40fba38", checked := Try.checked }
namespace Rows
def none {H : Type} : Left H := { results := [], args := [] }

/-- 'laws.FnExactMirrorCourse': WHATEVER THE INPUT: true; the input reads as it did. -/
def fnExactMirrorCourseSpec : ChangeSpec := { name := "fnExactMirrorCourse", fn := fun _ => fun
  | [d] => { results := [.lit (.bool true)], args := [d] }
  | _ => none }
def fnExactMirrorCourseRow : OpenClaim := { program := "ytibmehephlngfaa", sum := "7e1ae951ca0b82bc08b2cbda970e19f646b31c3cc86717869ab2aaa1e40fba38", func := "loop.example/g01099/laws.FnExactMirrorCourse", spec := "fnExactMirrorCourse", unfollowed := true, recurses := true, plainKeys := false, apart := false }
def FnExactMirrorCourseSaid : Prop := fnExactMirrorCourseRow.holds Try.pinned (OpenSpec.ofChange fnExactMirrorCourseSpec)

/-- ITS FALSE NEIGHBOUR: 'it returns false'. Refute it at one input. -/
def fnExactMirrorCourseWrong : ChangeSpec := { name := "fnExactMirrorCourse", fn := fun _ => fun
  | [d] => { results := [.lit (.bool false)], args := [d] }
  | _ => none }
def FnExactMirrorCourseWrongFalsely : Prop := fnExactMirrorCourseRow.holds Try.pinned (OpenSpec.ofChange fnExactMirrorCourseWrong)

/-- 'laws.FnExactCourseOf': WHATEVER THE INPUT: true; the input reads as it did. -/
def fnExactCourseOfSpec : ChangeSpec := { name := "fnExactCourseOf", fn := fun _ => fun
  | [d1, d2] => { results := [.lit (.bool true)], args := [d1, d2] }
  | _ => none }
def fnExactCourseOfRow : OpenClaim := { program := "ytibmehephlngfaa", sum := "7e1ae951ca0b82bc08b2cbda970e19f646b31c3cc86717869ab2aaa1e40fba38", func := "loop.example/g01099/laws.FnExactCourseOf", spec := "fnExactCourseOf", unfollowed := true, recurses := true, plainKeys := false, apart := false }
def FnExactCourseOfSaid : Prop := fnExactCourseOfRow.holds Try.pinned (OpenSpec.ofChange fnExactCourseOfSpec)

/-- ITS FALSE NEIGHBOUR: 'it returns false'. Refute it at one input. -/
def fnExactCourseOfWrong : ChangeSpec := { name := "fnExactCourseOf", fn := fun _ => fun
  | [d1, d2] => { results := [.lit (.bool false)], args := [d1, d2] }
  | _ => none }
def FnExactCourseOfWrongFalsely : Prop := fnExactCourseOfRow.holds Try.pinned (OpenSpec.ofChange fnExactCourseOfWrong)

/-- 'laws.FnExactNextCourse': WHATEVER THE INPUT: true; the input reads as it did. -/
def fnExactNextCourseSpec : ChangeSpec := { name := "fnExactNextCourse", fn := fun _ => fun
  | [d1, d2, d3] => { results := [.lit (.bool true)], args := [d1, d2, d3] }
  | _ => none }
def fnExactNextCourseRow : OpenClaim := { program := "ytibmehephlngfaa", sum := "7e1ae951ca0b82bc08b2cbda970e19f646b31c3cc86717869ab2aaa1e40fba38", func := "loop.example/g01099/laws.FnExactNextCourse", spec := "fnExactNextCourse", plainKeys := false, apart := false }
def FnExactNextCourseSaid : Prop := fnExactNextCourseRow.holds Try.pinned (OpenSpec.ofChange fnExactNextCourseSpec)

/-- ITS FALSE NEIGHBOUR: 'it returns false'. Refute it at one input. -/
def fnExactNextCourseWrong : ChangeSpec := { name := "fnExactNextCourse", fn := fun _ => fun
  | [d1, d2, d3] => { results := [.lit (.bool false)], args := [d1, d2, d3] }
  | _ => none }
def FnExactNextCourseWrongFalsely : Prop := fnExactNextCourseRow.holds Try.pinned (OpenSpec.ofChange fnExactNextCourseWrong)

/-- 'laws.FnExactTurnsFrom': WHATEVER THE INPUT: true; the input reads as it did. -/
def fnExactTurnsFromSpec : ChangeSpec := { name := "fnExactTurnsFrom", fn := fun _ => fun
  | [d1, d2] => { results := [.lit (.bool true)], args := [d1, d2] }
  | _ => none }
def fnExactTurnsFromRow : OpenClaim := { program := "ytibmehephlngfaa", sum := "7e1ae951ca0b82bc08b2cbda970e19f646b31c3cc86717869ab2aaa1e40fba38", func := "loop.example/g01099/laws.FnExactTurnsFrom", spec := "fnExactTurnsFrom", plainKeys := false, apart := false }
def FnExactTurnsFromSaid : Prop := fnExactTurnsFromRow.holds Try.pinned (OpenSpec.ofChange fnExactTurnsFromSpec)

/-- ITS FALSE NEIGHBOUR: 'it returns false'. Refute it at one input. -/
def fnExactTurnsFromWrong : ChangeSpec := { name := "fnExactTurnsFrom", fn := fun _ => fun
  | [d1, d2] => { results := [.lit (.bool false)], args := [d1, d2] }
  | _ => none }
def FnExactTurnsFromWrongFalsely : Prop := fnExactTurnsFromRow.holds Try.pinned (OpenSpec.ofChange fnExactTurnsFromWrong)

/-- 'laws.FnExactRunCourse': WHATEVER THE INPUT: true; the input reads as it did. -/
def fnExactRunCourseSpec : ChangeSpec := { name := "fnExactRunCourse", fn := fun _ => fun
  | [d1, d2, d3] => { results := [.lit (.bool true)], args := [d1, d2, d3] }
  | _ => none }
def fnExactRunCourseRow : OpenClaim := { program := "ytibmehephlngfaa", sum := "7e1ae951ca0b82bc08b2cbda970e19f646b31c3cc86717869ab2aaa1e40fba38", func := "loop.example/g01099/laws.FnExactRunCourse", spec := "fnExactRunCourse", plainKeys := false, apart := false }
def FnExactRunCourseSaid : Prop := fnExactRunCourseRow.holds Try.pinned (OpenSpec.ofChange fnExactRunCourseSpec)

/-- ITS FALSE NEIGHBOUR: 'it returns false'. Refute it at one input. -/
def fnExactRunCourseWrong : ChangeSpec := { name := "fnExactRunCourse", fn := fun _ => fun
  | [d1, d2, d3] => { results := [.lit (.bool false)], args := [d1, d2, d3] }
  | _ => none }
def FnExactRunCourseWrongFalsely : Prop := fnExactRunCourseRow.holds Try.pinned (OpenSpec.ofChange fnExactRunCourseWrong)

/-- 'laws.FnExactStepsHome': WHATEVER THE INPUT: true; the input reads as it did. -/
def fnExactStepsHomeSpec : ChangeSpec := { name := "fnExactStepsHome", fn := fun _ => fun
  | [d1, d2] => { results := [.lit (.bool true)], args := [d1, d2] }
  | _ => none }
def fnExactStepsHomeRow : OpenClaim := { program := "ytibmehephlngfaa", sum := "7e1ae951ca0b82bc08b2cbda970e19f646b31c3cc86717869ab2aaa1e40fba38", func := "loop.example/g01099/laws.FnExactStepsHome", spec := "fnExactStepsHome", plainKeys := false, apart := false }
def FnExactStepsHomeSaid : Prop := fnExactStepsHomeRow.holds Try.pinned (OpenSpec.ofChange fnExactStepsHomeSpec)

/-- ITS FALSE NEIGHBOUR: 'it returns false'. Refute it at one input. -/
def fnExactStepsHomeWrong : ChangeSpec := { name := "fnExactStepsHome", fn := fun _ => fun
  | [d1, d2] => { results := [.lit (.bool false)], args := [d1, d2] }
  | _ => none }
def FnExactStepsHomeWrongFalsely : Prop := fnExactStepsHomeRow.holds Try.pinned (OpenSpec.ofChange fnExactStepsHomeWrong)

/-- 'laws.FnExactPlanHome': WHATEVER THE INPUT: true; the input reads as it did. -/
def fnExactPlanHomeSpec : ChangeSpec := { name := "fnExactPlanHome", fn := fun _ => fun
  | [d1, d2] => { results := [.lit (.bool true)], args := [d1, d2] }
  | _ => none }
def fnExactPlanHomeRow : OpenClaim := { program := "ytibmehephlngfaa", sum := "7e1ae951ca0b82bc08b2cbda970e19f646b31c3cc86717869ab2aaa1e40fba38", func := "loop.example/g01099/laws.FnExactPlanHome", spec := "fnExactPlanHome", plainKeys := false, apart := false }
def FnExactPlanHomeSaid : Prop := fnExactPlanHomeRow.holds Try.pinned (OpenSpec.ofChange fnExactPlanHomeSpec)

/-- ITS FALSE NEIGHBOUR: 'it returns false'. Refute it at one input. -/
def fnExactPlanHomeWrong : ChangeSpec := { name := "fnExactPlanHome", fn := fun _ => fun
  | [d1, d2] => { results := [.lit (.bool false)], args := [d1, d2] }
  | _ => none }
def FnExactPlanHomeWrongFalsely : Prop := fnExactPlanHomeRow.holds Try.pinned (OpenSpec.ofChange fnExactPlanHomeWrong)

/-- 'laws.FnExactSmoothestHome': WHATEVER THE INPUT: true; the input reads as it did. -/
def fnExactSmoothestHomeSpec : ChangeSpec := { name := "fnExactSmoothestHome", fn := fun _ => fun
  | [d1, d2, d3] => { results := [.lit (.bool true)], args := [d1, d2, d3] }
  | _ => none }
def fnExactSmoothestHomeRow : OpenClaim := { program := "ytibmehephlngfaa", sum := "7e1ae951ca0b82bc08b2cbda970e19f646b31c3cc86717869ab2aaa1e40fba38", func := "loop.example/g01099/laws.FnExactSmoothestHome", spec := "fnExactSmoothestHome", recurses := true, plainKeys := false, apart := false }
def FnExactSmoothestHomeSaid : Prop := fnExactSmoothestHomeRow.holds Try.pinned (OpenSpec.ofChange fnExactSmoothestHomeSpec)

/-- ITS FALSE NEIGHBOUR: 'it returns false'. Refute it at one input. -/
def fnExactSmoothestHomeWrong : ChangeSpec := { name := "fnExactSmoothestHome", fn := fun _ => fun
  | [d1, d2, d3] => { results := [.lit (.bool false)], args := [d1, d2, d3] }
  | _ => none }
def FnExactSmoothestHomeWrongFalsely : Prop := fnExactSmoothestHomeRow.holds Try.pinned (OpenSpec.ofChange fnExactSmoothestHomeWrong)

/-- 'laws.FnSteps': WHATEVER THE INPUT: true; the input reads as it did. -/
def fnStepsSpec : ChangeSpec := { name := "fnSteps", fn := fun _ => fun
  | [d1, d2] => { results := [.lit (.bool true)], args := [d1, d2] }
  | _ => none }
def fnStepsRow : OpenClaim := { program := "ytibmehephlngfaa", sum := "7e1ae951ca0b82bc08b2cbda970e19f646b31c3cc86717869ab2aaa1e40fba38", func := "loop.example/g01099/laws.FnSteps", spec := "fnSteps", plainKeys := false, apart := false }
def FnStepsSaid : Prop := fnStepsRow.holds Try.pinned (OpenSpec.ofChange fnStepsSpec)

/-- ITS FALSE NEIGHBOUR: 'it returns false'. Refute it at one input. -/
def fnStepsWrong : ChangeSpec := { name := "fnSteps", fn := fun _ => fun
  | [d1, d2] => { results := [.lit (.bool false)], args := [d1, d2] }
  | _ => none }
def FnStepsWrongFalsely : Prop := fnStepsRow.holds Try.pinned (OpenSpec.ofChange fnStepsWrong)

/-- 'laws.FnHomeward': WHATEVER THE INPUT: true; the input reads as it did. -/
def fnHomewardSpec : ChangeSpec := { name := "fnHomeward", fn := fun _ => fun
  | [d1, d2] => { results := [.lit (.bool true)], args := [d1, d2] }
  | _ => none }
def fnHomewardRow : OpenClaim := { program := "ytibmehephlngfaa", sum := "7e1ae951ca0b82bc08b2cbda970e19f646b31c3cc86717869ab2aaa1e40fba38", func := "loop.example/g01099/laws.FnHomeward", spec := "fnHomeward", unfollowed := true, recurses := true, plainKeys := false, apart := false }
def FnHomewardSaid : Prop := fnHomewardRow.holds Try.pinned (OpenSpec.ofChange fnHomewardSpec)

/-- ITS FALSE NEIGHBOUR: 'it returns false'. Refute it at one input. -/
def fnHomewardWrong : ChangeSpec := { name := "fnHomeward", fn := fun _ => fun
  | [d1, d2] => { results := [.lit (.bool false)], args := [d1, d2] }
  | _ => none }
def FnHomewardWrongFalsely : Prop := fnHomewardRow.holds Try.pinned (OpenSpec.ofChange fnHomewardWrong)

/- THE SECOND FORM. 'bulk': how many values and letters a reading holds, each counted each time it is reached (what is shared counts as often as it is met; a slice's spare places count too). A statement '..UptoSaid' is the law's where the arguments, and the package variables that the reading takes, are together of bulk at most 1048576: NARROWER than '..Said'. Prove '..Said' where nothing that the law and all that it calls make is longer than what came in: it says more and counts as full. Else prove '..UptoSaid'. A law counts once. -/
mutual
def uptoBulk {H : Type} : DataW H → Nat
  | .lit (.string bytes) => bytes.length + 1
  | .lit _ => 1
  | .nil => 1
  | .ptr d => uptoBulk d + 1
  | .slice elems spare => uptoBulkAll elems + uptoBulkAll spare + 1
  | .agg parts => uptoBulkAll parts + 1
  | .iface _ d => uptoBulk d + 1
  | .map entries => uptoBulkEntries entries + 1
  | .held _ => 1
def uptoBulkAll {H : Type} : List (DataW H) → Nat
  | [] => 0
  | d :: r => uptoBulk d + uptoBulkAll r
def uptoBulkEntries {H : Type} : List (Lit × DataW H) → Nat
  | [] => 0
  | x :: r => uptoBulkEntry x + uptoBulkEntries r
def uptoBulkEntry {H : Type} : Lit × DataW H → Nat
  | (.string bytes, d) => bytes.length + uptoBulk d + 1
  | (_, d) => uptoBulk d + 1
 end
def uptoSmall : (H : Type) → List (DataW H) → Bool := fun _ ds => decide (uptoBulkAll ds ≤ 1048576)
def OpenSpec.upto (s : _root_.Go.ChangeSpec) : _root_.Go.OpenSpec := { _root_.Go.OpenSpec.ofChange s with cond := some uptoSmall }

/-- 'laws.FnExactMirrorCourse', WHERE WHAT IT READS IS OF BULK AT MOST 1048576: true; the input reads as it did. -/
def fnExactMirrorCourseUptoRow : OpenClaim := { program := "ytibmehephlngfaa", sum := "7e1ae951ca0b82bc08b2cbda970e19f646b31c3cc86717869ab2aaa1e40fba38", func := "loop.example/g01099/laws.FnExactMirrorCourse", spec := "fnExactMirrorCourse", unfollowed := true, recurses := true, plainKeys := false, apart := false, narrowed := true }
def FnExactMirrorCourseUptoSaid : Prop := fnExactMirrorCourseUptoRow.holds Try.pinned (OpenSpec.upto fnExactMirrorCourseSpec)

/-- 'laws.FnExactCourseOf', WHERE WHAT IT READS IS OF BULK AT MOST 1048576: true; the input reads as it did. -/
def fnExactCourseOfUptoRow : OpenClaim := { program := "ytibmehephlngfaa", sum := "7e1ae951ca0b82bc08b2cbda970e19f646b31c3cc86717869ab2aaa1e40fba38", func := "loop.example/g01099/laws.FnExactCourseOf", spec := "fnExactCourseOf", unfollowed := true, recurses := true, plainKeys := false, apart := false, narrowed := true }
def FnExactCourseOfUptoSaid : Prop := fnExactCourseOfUptoRow.holds Try.pinned (OpenSpec.upto fnExactCourseOfSpec)

/-- 'laws.FnExactNextCourse', WHERE WHAT IT READS IS OF BULK AT MOST 1048576: true; the input reads as it did. -/
def fnExactNextCourseUptoRow : OpenClaim := { program := "ytibmehephlngfaa", sum := "7e1ae951ca0b82bc08b2cbda970e19f646b31c3cc86717869ab2aaa1e40fba38", func := "loop.example/g01099/laws.FnExactNextCourse", spec := "fnExactNextCourse", plainKeys := false, apart := false, narrowed := true }
def FnExactNextCourseUptoSaid : Prop := fnExactNextCourseUptoRow.holds Try.pinned (OpenSpec.upto fnExactNextCourseSpec)

/-- 'laws.FnExactTurnsFrom', WHERE WHAT IT READS IS OF BULK AT MOST 1048576: true; the input reads as it did. -/
def fnExactTurnsFromUptoRow : OpenClaim := { program := "ytibmehephlngfaa", sum := "7e1ae951ca0b82bc08b2cbda970e19f646b31c3cc86717869ab2aaa1e40fba38", func := "loop.example/g01099/laws.FnExactTurnsFrom", spec := "fnExactTurnsFrom", plainKeys := false, apart := false, narrowed := true }
def FnExactTurnsFromUptoSaid : Prop := fnExactTurnsFromUptoRow.holds Try.pinned (OpenSpec.upto fnExactTurnsFromSpec)

/-- 'laws.FnExactRunCourse', WHERE WHAT IT READS IS OF BULK AT MOST 1048576: true; the input reads as it did. -/
def fnExactRunCourseUptoRow : OpenClaim := { program := "ytibmehephlngfaa", sum := "7e1ae951ca0b82bc08b2cbda970e19f646b31c3cc86717869ab2aaa1e40fba38", func := "loop.example/g01099/laws.FnExactRunCourse", spec := "fnExactRunCourse", plainKeys := false, apart := false, narrowed := true }
def FnExactRunCourseUptoSaid : Prop := fnExactRunCourseUptoRow.holds Try.pinned (OpenSpec.upto fnExactRunCourseSpec)

/-- 'laws.FnExactStepsHome', WHERE WHAT IT READS IS OF BULK AT MOST 1048576: true; the input reads as it did. -/
def fnExactStepsHomeUptoRow : OpenClaim := { program := "ytibmehephlngfaa", sum := "7e1ae951ca0b82bc08b2cbda970e19f646b31c3cc86717869ab2aaa1e40fba38", func := "loop.example/g01099/laws.FnExactStepsHome", spec := "fnExactStepsHome", plainKeys := false, apart := false, narrowed := true }
def FnExactStepsHomeUptoSaid : Prop := fnExactStepsHomeUptoRow.holds Try.pinned (OpenSpec.upto fnExactStepsHomeSpec)

/-- 'laws.FnExactPlanHome', WHERE WHAT IT READS IS OF BULK AT MOST 1048576: true; the input reads as it did. -/
def fnExactPlanHomeUptoRow : OpenClaim := { program := "ytibmehephlngfaa", sum := "7e1ae951ca0b82bc08b2cbda970e19f646b31c3cc86717869ab2aaa1e40fba38", func := "loop.example/g01099/laws.FnExactPlanHome", spec := "fnExactPlanHome", plainKeys := false, apart := false, narrowed := true }
def FnExactPlanHomeUptoSaid : Prop := fnExactPlanHomeUptoRow.holds Try.pinned (OpenSpec.upto fnExactPlanHomeSpec)

/-- 'laws.FnExactSmoothestHome', WHERE WHAT IT READS IS OF BULK AT MOST 1048576: true; the input reads as it did. -/
def fnExactSmoothestHomeUptoRow : OpenClaim := { program := "ytibmehephlngfaa", sum := "7e1ae951ca0b82bc08b2cbda970e19f646b31c3cc86717869ab2aaa1e40fba38", func := "loop.example/g01099/laws.FnExactSmoothestHome", spec := "fnExactSmoothestHome", recurses := true, plainKeys := false, apart := false, narrowed := true }
def FnExactSmoothestHomeUptoSaid : Prop := fnExactSmoothestHomeUptoRow.holds Try.pinned (OpenSpec.upto fnExactSmoothestHomeSpec)

/-- 'laws.FnSteps', WHERE WHAT IT READS IS OF BULK AT MOST 1048576: true; the input reads as it did. -/
def fnStepsUptoRow : OpenClaim := { program := "ytibmehephlngfaa", sum := "7e1ae951ca0b82bc08b2cbda970e19f646b31c3cc86717869ab2aaa1e40fba38", func := "loop.example/g01099/laws.FnSteps", spec := "fnSteps", plainKeys := false, apart := false, narrowed := true }
def FnStepsUptoSaid : Prop := fnStepsUptoRow.holds Try.pinned (OpenSpec.upto fnStepsSpec)

/-- 'laws.FnHomeward', WHERE WHAT IT READS IS OF BULK AT MOST 1048576: true; the input reads as it did. -/
def fnHomewardUptoRow : OpenClaim := { program := "ytibmehephlngfaa", sum := "7e1ae951ca0b82bc08b2cbda970e19f646b31c3cc86717869ab2aaa1e40fba38", func := "loop.example/g01099/laws.FnHomeward", spec := "fnHomeward", unfollowed := true, recurses := true, plainKeys := false, apart := false, narrowed := true }
def FnHomewardUptoSaid : Prop := fnHomewardUptoRow.holds Try.pinned (OpenSpec.upto fnHomewardSpec)

end Rows
end Go.Proofs.Ytibmehephlngfaa
