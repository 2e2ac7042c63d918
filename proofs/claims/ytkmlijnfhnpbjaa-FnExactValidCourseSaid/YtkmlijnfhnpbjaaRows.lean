/-
  No cell of these rows narrows 'for every input' (looked for: loops, veiled, ifaces, maps, wideKeys, modest, calm, conditions, laid).
  DERIVED. THE GIVEN ROWS OF THIS SEAT. 6 by the template 'for every input the law returns true; each argument reads behind the call as it read before'; 0 by the template 'total and deterministic' (their statements: YtkmlijnfhnpbjaaTotals.lean).
  GIVEN WITH THE SEED: the statements are not yours to turn. If you find one false, say at which input.
  Laid BY PROGRAM, IN A SANDBOX (cutbox-rows.mjs): the forced cells as the released guide's own fill.sh prints them over the translation e83392fde26063a2… (all of the seat's roots in one cut). By AI agents, Wed Nov 11 2026. No macro, syntax, notation, axiom, sorry.
-/
import Derived.Test.YtkmlijnfhnpbjaaChecked
import GoSem.Claim
import GoSem.ClaimJoined
import GoSem.ClaimMapViews
import Derived.JoinedTies
import Derived.KernelRfl
namespace Go.Proofs.Ytkmlijnfhnpbjaa
/- THE CELL 'sum', in the pinned program and in every row, IS THE sha256 OF THE DUMP (.gsa) THAT YtkmlijnfhnpbjaaProg.lean LOADS. Nothing in Lean hashes anything: it is a label: what it is worth is what the hold of that sum in a sandbox is worth. -/
noncomputable def Try.pinned : Pinned := { name := "ytkmlijnfhnpbjaa", sum := "e83392fde26063a2f6cd4b6c172428cb052c5fd74092d031939872af57240864", checked := Try.checked }
namespace Rows
def none {H : Type} : Left H := { results := [], args := [] }

/-- 'laws.FnExactConstants': WHATEVER THE INPUT: true; the input reads as it did. -/
def fnExactConstantsSpec : ChangeSpec := { name := "fnExactConstants", fn := fun _ => fun
  | [] => { results := [.lit (.bool true)], args := [] }
  | _ => none }
def fnExactConstantsRow : OpenClaim := { program := "ytkmlijnfhnpbjaa", sum := "e83392fde26063a2f6cd4b6c172428cb052c5fd74092d031939872af57240864", func := "loop.example/g01099/laws.FnExactConstants", spec := "fnExactConstants", plainKeys := false, apart := false }
def FnExactConstantsSaid : Prop := fnExactConstantsRow.holds Try.pinned (OpenSpec.ofChange fnExactConstantsSpec)

/-- ITS FALSE NEIGHBOUR: 'it returns false'. Refute it at one input. -/
def fnExactConstantsWrong : ChangeSpec := { name := "fnExactConstants", fn := fun _ => fun
  | [] => { results := [.lit (.bool false)], args := [] }
  | _ => none }
def FnExactConstantsWrongFalsely : Prop := fnExactConstantsRow.holds Try.pinned (OpenSpec.ofChange fnExactConstantsWrong)

/-- 'laws.FnExactValidLimits': WHATEVER THE INPUT: true; the input reads as it did. -/
def fnExactValidLimitsSpec : ChangeSpec := { name := "fnExactValidLimits", fn := fun _ => fun
  | [d] => { results := [.lit (.bool true)], args := [d] }
  | _ => none }
def fnExactValidLimitsRow : OpenClaim := { program := "ytkmlijnfhnpbjaa", sum := "e83392fde26063a2f6cd4b6c172428cb052c5fd74092d031939872af57240864", func := "loop.example/g01099/laws.FnExactValidLimits", spec := "fnExactValidLimits", plainKeys := false, apart := false }
def FnExactValidLimitsSaid : Prop := fnExactValidLimitsRow.holds Try.pinned (OpenSpec.ofChange fnExactValidLimitsSpec)

/-- ITS FALSE NEIGHBOUR: 'it returns false'. Refute it at one input. -/
def fnExactValidLimitsWrong : ChangeSpec := { name := "fnExactValidLimits", fn := fun _ => fun
  | [d] => { results := [.lit (.bool false)], args := [d] }
  | _ => none }
def FnExactValidLimitsWrongFalsely : Prop := fnExactValidLimitsRow.holds Try.pinned (OpenSpec.ofChange fnExactValidLimitsWrong)

/-- 'laws.FnExactValidRing': WHATEVER THE INPUT: true; the input reads as it did. -/
def fnExactValidRingSpec : ChangeSpec := { name := "fnExactValidRing", fn := fun _ => fun
  | [d] => { results := [.lit (.bool true)], args := [d] }
  | _ => none }
def fnExactValidRingRow : OpenClaim := { program := "ytkmlijnfhnpbjaa", sum := "e83392fde26063a2f6cd4b6c172428cb052c5fd74092d031939872af57240864", func := "loop.example/g01099/laws.FnExactValidRing", spec := "fnExactValidRing", plainKeys := false, apart := false }
def FnExactValidRingSaid : Prop := fnExactValidRingRow.holds Try.pinned (OpenSpec.ofChange fnExactValidRingSpec)

/-- ITS FALSE NEIGHBOUR: 'it returns false'. Refute it at one input. -/
def fnExactValidRingWrong : ChangeSpec := { name := "fnExactValidRing", fn := fun _ => fun
  | [d] => { results := [.lit (.bool false)], args := [d] }
  | _ => none }
def FnExactValidRingWrongFalsely : Prop := fnExactValidRingRow.holds Try.pinned (OpenSpec.ofChange fnExactValidRingWrong)

/-- 'laws.FnExactIsName': WHATEVER THE INPUT: true; the input reads as it did. -/
def fnExactIsNameSpec : ChangeSpec := { name := "fnExactIsName", fn := fun _ => fun
  | [d] => { results := [.lit (.bool true)], args := [d] }
  | _ => none }
def fnExactIsNameRow : OpenClaim := { program := "ytkmlijnfhnpbjaa", sum := "e83392fde26063a2f6cd4b6c172428cb052c5fd74092d031939872af57240864", func := "loop.example/g01099/laws.FnExactIsName", spec := "fnExactIsName", plainKeys := false, apart := false }
def FnExactIsNameSaid : Prop := fnExactIsNameRow.holds Try.pinned (OpenSpec.ofChange fnExactIsNameSpec)

/-- ITS FALSE NEIGHBOUR: 'it returns false'. Refute it at one input. -/
def fnExactIsNameWrong : ChangeSpec := { name := "fnExactIsName", fn := fun _ => fun
  | [d] => { results := [.lit (.bool false)], args := [d] }
  | _ => none }
def FnExactIsNameWrongFalsely : Prop := fnExactIsNameRow.holds Try.pinned (OpenSpec.ofChange fnExactIsNameWrong)

/-- 'laws.FnExactCheckOf': WHATEVER THE INPUT: true; the input reads as it did. -/
def fnExactCheckOfSpec : ChangeSpec := { name := "fnExactCheckOf", fn := fun _ => fun
  | [d1, d2] => { results := [.lit (.bool true)], args := [d1, d2] }
  | _ => none }
def fnExactCheckOfRow : OpenClaim := { program := "ytkmlijnfhnpbjaa", sum := "e83392fde26063a2f6cd4b6c172428cb052c5fd74092d031939872af57240864", func := "loop.example/g01099/laws.FnExactCheckOf", spec := "fnExactCheckOf", plainKeys := false, apart := false }
def FnExactCheckOfSaid : Prop := fnExactCheckOfRow.holds Try.pinned (OpenSpec.ofChange fnExactCheckOfSpec)

/-- ITS FALSE NEIGHBOUR: 'it returns false'. Refute it at one input. -/
def fnExactCheckOfWrong : ChangeSpec := { name := "fnExactCheckOf", fn := fun _ => fun
  | [d1, d2] => { results := [.lit (.bool false)], args := [d1, d2] }
  | _ => none }
def FnExactCheckOfWrongFalsely : Prop := fnExactCheckOfRow.holds Try.pinned (OpenSpec.ofChange fnExactCheckOfWrong)

/-- 'laws.FnExactValidCourse': WHATEVER THE INPUT: true; the input reads as it did. -/
def fnExactValidCourseSpec : ChangeSpec := { name := "fnExactValidCourse", fn := fun _ => fun
  | [d1, d2] => { results := [.lit (.bool true)], args := [d1, d2] }
  | _ => none }
def fnExactValidCourseRow : OpenClaim := { program := "ytkmlijnfhnpbjaa", sum := "e83392fde26063a2f6cd4b6c172428cb052c5fd74092d031939872af57240864", func := "loop.example/g01099/laws.FnExactValidCourse", spec := "fnExactValidCourse", plainKeys := false, apart := false }
def FnExactValidCourseSaid : Prop := fnExactValidCourseRow.holds Try.pinned (OpenSpec.ofChange fnExactValidCourseSpec)

/-- ITS FALSE NEIGHBOUR: 'it returns false'. Refute it at one input. -/
def fnExactValidCourseWrong : ChangeSpec := { name := "fnExactValidCourse", fn := fun _ => fun
  | [d1, d2] => { results := [.lit (.bool false)], args := [d1, d2] }
  | _ => none }
def FnExactValidCourseWrongFalsely : Prop := fnExactValidCourseRow.holds Try.pinned (OpenSpec.ofChange fnExactValidCourseWrong)

/- THE SECOND FORM. 'bulk': how many values and letters a reading holds, each counted each time it is reached (what is shared counts as often as it is met; a slice's spare places count too). A statement '..UptoSaid' is the law's where the arguments, and the package variables that the reading takes, are together of bulk at most 1048576: NARROWER than '..Said'. Prove '..Said' where nothing that the law and all that it calls make is longer than what came in: it says more and counts as full. Else prove '..UptoSaid'. A law counts once. -/
mutual
def uptoBulk {H : Type} : DataW H → Nat
  | .lit (.string bytes) => bytes.length + 1
  | .lit _ => 1
  | .nil => 1
  | .ptr d => uptoBulk d + 1
  | .slice elems spare => uptoBulkAll elems + uptoBulkAll spare + 1
  | .agg parts => uptoBulkAll parts + 1
  | .iface _ d => uptoBulk d + 1
  | .map entries => uptoBulkEntries entries + 1
  | .held _ => 1
def uptoBulkAll {H : Type} : List (DataW H) → Nat
  | [] => 0
  | d :: r => uptoBulk d + uptoBulkAll r
def uptoBulkEntries {H : Type} : List (Lit × DataW H) → Nat
  | [] => 0
  | x :: r => uptoBulkEntry x + uptoBulkEntries r
def uptoBulkEntry {H : Type} : Lit × DataW H → Nat
  | (.string bytes, d) => bytes.length + uptoBulk d + 1
  | (_, d) => uptoBulk d + 1
 end
def uptoSmall : (H : Type) → List (DataW H) → Bool := fun _ ds => decide (uptoBulkAll ds ≤ 1048576)
def OpenSpec.upto (s : _root_.Go.ChangeSpec) : _root_.Go.OpenSpec := { _root_.Go.OpenSpec.ofChange s with cond := some uptoSmall }

/-- 'laws.FnExactConstants', WHERE WHAT IT READS IS OF BULK AT MOST 1048576: true; the input reads as it did. -/
def fnExactConstantsUptoRow : OpenClaim := { program := "ytkmlijnfhnpbjaa", sum := "e83392fde26063a2f6cd4b6c172428cb052c5fd74092d031939872af57240864", func := "loop.example/g01099/laws.FnExactConstants", spec := "fnExactConstants", plainKeys := false, apart := false, narrowed := true }
def FnExactConstantsUptoSaid : Prop := fnExactConstantsUptoRow.holds Try.pinned (OpenSpec.upto fnExactConstantsSpec)

/-- 'laws.FnExactValidLimits', WHERE WHAT IT READS IS OF BULK AT MOST 1048576: true; the input reads as it did. -/
def fnExactValidLimitsUptoRow : OpenClaim := { program := "ytkmlijnfhnpbjaa", sum := "e83392fde26063a2f6cd4b6c172428cb052c5fd74092d031939872af57240864", func := "loop.example/g01099/laws.FnExactValidLimits", spec := "fnExactValidLimits", plainKeys := false, apart := false, narrowed := true }
def FnExactValidLimitsUptoSaid : Prop := fnExactValidLimitsUptoRow.holds Try.pinned (OpenSpec.upto fnExactValidLimitsSpec)

/-- 'laws.FnExactValidRing', WHERE WHAT IT READS IS OF BULK AT MOST 1048576: true; the input reads as it did. -/
def fnExactValidRingUptoRow : OpenClaim := { program := "ytkmlijnfhnpbjaa", sum := "e83392fde26063a2f6cd4b6c172428cb052c5fd74092d031939872af57240864", func := "loop.example/g01099/laws.FnExactValidRing", spec := "fnExactValidRing", plainKeys := false, apart := false, narrowed := true }
def FnExactValidRingUptoSaid : Prop := fnExactValidRingUptoRow.holds Try.pinned (OpenSpec.upto fnExactValidRingSpec)

/-- 'laws.FnExactIsName', WHERE WHAT IT READS IS OF BULK AT MOST 1048576: true; the input reads as it did. -/
def fnExactIsNameUptoRow : OpenClaim := { program := "ytkmlijnfhnpbjaa", sum := "e83392fde26063a2f6cd4b6c172428cb052c5fd74092d031939872af57240864", func := "loop.example/g01099/laws.FnExactIsName", spec := "fnExactIsName", plainKeys := false, apart := false, narrowed := true }
def FnExactIsNameUptoSaid : Prop := fnExactIsNameUptoRow.holds Try.pinned (OpenSpec.upto fnExactIsNameSpec)

/-- 'laws.FnExactCheckOf', WHERE WHAT IT READS IS OF BULK AT MOST 1048576: true; the input reads as it did. -/
def fnExactCheckOfUptoRow : OpenClaim := { program := "ytkmlijnfhnpbjaa", sum := "e83392fde26063a2f6cd4b6c172428cb052c5fd74092d031939872af57240864", func := "loop.example/g01099/laws.FnExactCheckOf", spec := "fnExactCheckOf", plainKeys := false, apart := false, narrowed := true }
def FnExactCheckOfUptoSaid : Prop := fnExactCheckOfUptoRow.holds Try.pinned (OpenSpec.upto fnExactCheckOfSpec)

/-- 'laws.FnExactValidCourse', WHERE WHAT IT READS IS OF BULK AT MOST 1048576: true; the input reads as it did. -/
def fnExactValidCourseUptoRow : OpenClaim := { program := "ytkmlijnfhnpbjaa", sum := "e83392fde26063a2f6cd4b6c172428cb052c5fd74092d031939872af57240864", func := "loop.example/g01099/laws.FnExactValidCourse", spec := "fnExactValidCourse", plainKeys := false, apart := false, narrowed := true }
def FnExactValidCourseUptoSaid : Prop := fnExactValidCourseUptoRow.holds Try.pinned (OpenSpec.upto fnExactValidCourseSpec)

end Rows
end Go.Proofs.Ytkmlijnfhnpbjaa
