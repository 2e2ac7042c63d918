/-
  No cell of these rows narrows 'for every input' (looked for: loops, veiled, ifaces, maps, wideKeys, modest, calm, conditions, laid).
  DERIVED. THE GIVEN ROWS OF THIS SEAT. 17 by the template 'for every input the law returns true; each argument reads behind the call as it read before'; 0 by the template 'total and deterministic' (their statements: YthlbcjoogcanmaaTotals.lean).
  GIVEN WITH THE SEED: the statements are not yours to turn. If you find one false, say at which input.
  Laid BY PROGRAM, IN A SANDBOX (cutbox-rows.mjs): the forced cells as the released guide's own fill.sh prints them over the translation 1d6dd9e455bd5f51… (all of the seat's roots in one cut). By AI agents, Wed Nov 11 2026. No macro, syntax, notation, axiom, sorry.
-/
import Derived.Test.YthlbcjoogcanmaaChecked
import GoSem.Claim
import GoSem.ClaimJoined
import GoSem.ClaimMapViews
import Derived.JoinedTies
import Derived.KernelRfl
namespace Go.Proofs.Ythlbcjoogcanmaa
/- THE CELL 'sum', in the pinned program and in every row, IS THE sha256 OF THE DUMP (.gsa) THAT YthlbcjoogcanmaaProg.lean LOADS. Nothing in Lean hashes anything: it is a label: what it is worth is what the hold of that sum in a sandbox is worth. -/
noncomputable def Try.pinned : Pinned := { name := "ythlbcjoogcanmaa", sum := "1d6dd9e455bd5f51b5092011c6a00e5831650252205931acafd2ad71838cca8b", checked := Try.checked }
namespace Rows
def none {H : Type} : Left H := { results := [], args := [] }

/-- 'laws.FnExactValidPose': WHATEVER THE INPUT: true; the input reads as it did. -/
def fnExactValidPoseSpec : ChangeSpec := { name := "fnExactValidPose", fn := fun _ => fun
  | [d] => { results := [.lit (.bool true)], args := [d] }
  | _ => none }
def fnExactValidPoseRow : OpenClaim := { program := "ythlbcjoogcanmaa", sum := "1d6dd9e455bd5f51b5092011c6a00e5831650252205931acafd2ad71838cca8b", func := "loop.example/g01099/laws.FnExactValidPose", spec := "fnExactValidPose", unfollowed := true, recurses := true, apart := false }
def FnExactValidPoseSaid : Prop := fnExactValidPoseRow.holds Try.pinned (OpenSpec.ofChange fnExactValidPoseSpec)

/-- ITS FALSE NEIGHBOUR: 'it returns false'. Refute it at one input. -/
def fnExactValidPoseWrong : ChangeSpec := { name := "fnExactValidPose", fn := fun _ => fun
  | [d] => { results := [.lit (.bool false)], args := [d] }
  | _ => none }
def FnExactValidPoseWrongFalsely : Prop := fnExactValidPoseRow.holds Try.pinned (OpenSpec.ofChange fnExactValidPoseWrong)

/-- 'laws.FnExactNextPose': WHATEVER THE INPUT: true; the input reads as it did. -/
def fnExactNextPoseSpec : ChangeSpec := { name := "fnExactNextPose", fn := fun _ => fun
  | [d1, d2, d3] => { results := [.lit (.bool true)], args := [d1, d2, d3] }
  | _ => none }
def fnExactNextPoseRow : OpenClaim := { program := "ythlbcjoogcanmaa", sum := "1d6dd9e455bd5f51b5092011c6a00e5831650252205931acafd2ad71838cca8b", func := "loop.example/g01099/laws.FnExactNextPose", spec := "fnExactNextPose", unfollowed := true, recurses := true, apart := false }
def FnExactNextPoseSaid : Prop := fnExactNextPoseRow.holds Try.pinned (OpenSpec.ofChange fnExactNextPoseSpec)

/-- ITS FALSE NEIGHBOUR: 'it returns false'. Refute it at one input. -/
def fnExactNextPoseWrong : ChangeSpec := { name := "fnExactNextPose", fn := fun _ => fun
  | [d1, d2, d3] => { results := [.lit (.bool false)], args := [d1, d2, d3] }
  | _ => none }
def FnExactNextPoseWrongFalsely : Prop := fnExactNextPoseRow.holds Try.pinned (OpenSpec.ofChange fnExactNextPoseWrong)

/-- 'laws.FnExactValidAxis': WHATEVER THE INPUT: true; the input reads as it did. -/
def fnExactValidAxisSpec : ChangeSpec := { name := "fnExactValidAxis", fn := fun _ => fun
  | [d] => { results := [.lit (.bool true)], args := [d] }
  | _ => none }
def fnExactValidAxisRow : OpenClaim := { program := "ythlbcjoogcanmaa", sum := "1d6dd9e455bd5f51b5092011c6a00e5831650252205931acafd2ad71838cca8b", func := "loop.example/g01099/laws.FnExactValidAxis", spec := "fnExactValidAxis", unfollowed := true, recurses := true, apart := false }
def FnExactValidAxisSaid : Prop := fnExactValidAxisRow.holds Try.pinned (OpenSpec.ofChange fnExactValidAxisSpec)

/-- ITS FALSE NEIGHBOUR: 'it returns false'. Refute it at one input. -/
def fnExactValidAxisWrong : ChangeSpec := { name := "fnExactValidAxis", fn := fun _ => fun
  | [d] => { results := [.lit (.bool false)], args := [d] }
  | _ => none }
def FnExactValidAxisWrongFalsely : Prop := fnExactValidAxisRow.holds Try.pinned (OpenSpec.ofChange fnExactValidAxisWrong)

/-- 'laws.FnExactRingsOf': WHATEVER THE INPUT: true; the input reads as it did. -/
def fnExactRingsOfSpec : ChangeSpec := { name := "fnExactRingsOf", fn := fun _ => fun
  | [d] => { results := [.lit (.bool true)], args := [d] }
  | _ => none }
def fnExactRingsOfRow : OpenClaim := { program := "ythlbcjoogcanmaa", sum := "1d6dd9e455bd5f51b5092011c6a00e5831650252205931acafd2ad71838cca8b", func := "loop.example/g01099/laws.FnExactRingsOf", spec := "fnExactRingsOf", unfollowed := true, recurses := true, apart := false }
def FnExactRingsOfSaid : Prop := fnExactRingsOfRow.holds Try.pinned (OpenSpec.ofChange fnExactRingsOfSpec)

/-- ITS FALSE NEIGHBOUR: 'it returns false'. Refute it at one input. -/
def fnExactRingsOfWrong : ChangeSpec := { name := "fnExactRingsOf", fn := fun _ => fun
  | [d] => { results := [.lit (.bool false)], args := [d] }
  | _ => none }
def FnExactRingsOfWrongFalsely : Prop := fnExactRingsOfRow.holds Try.pinned (OpenSpec.ofChange fnExactRingsOfWrong)

/-- 'laws.FnLow': WHATEVER THE INPUT: true; the input reads as it did. -/
def fnLowSpec : ChangeSpec := { name := "fnLow", fn := fun _ => fun
  | [d1, d2] => { results := [.lit (.bool true)], args := [d1, d2] }
  | _ => none }
def fnLowRow : OpenClaim := { program := "ythlbcjoogcanmaa", sum := "1d6dd9e455bd5f51b5092011c6a00e5831650252205931acafd2ad71838cca8b", func := "loop.example/g01099/laws.FnLow", spec := "fnLow", unfollowed := true, recurses := true, apart := false }
def FnLowSaid : Prop := fnLowRow.holds Try.pinned (OpenSpec.ofChange fnLowSpec)

/-- ITS FALSE NEIGHBOUR: 'it returns false'. Refute it at one input. -/
def fnLowWrong : ChangeSpec := { name := "fnLow", fn := fun _ => fun
  | [d1, d2] => { results := [.lit (.bool false)], args := [d1, d2] }
  | _ => none }
def FnLowWrongFalsely : Prop := fnLowRow.holds Try.pinned (OpenSpec.ofChange fnLowWrong)

/-- 'laws.FnExactValidMachine': WHATEVER THE INPUT: true; the input reads as it did. -/
def fnExactValidMachineSpec : ChangeSpec := { name := "fnExactValidMachine", fn := fun _ => fun
  | [d] => { results := [.lit (.bool true)], args := [d] }
  | _ => none }
def fnExactValidMachineRow : OpenClaim := { program := "ythlbcjoogcanmaa", sum := "1d6dd9e455bd5f51b5092011c6a00e5831650252205931acafd2ad71838cca8b", func := "loop.example/g01099/laws.FnExactValidMachine", spec := "fnExactValidMachine", unfollowed := true, recurses := true, apart := false }
def FnExactValidMachineSaid : Prop := fnExactValidMachineRow.holds Try.pinned (OpenSpec.ofChange fnExactValidMachineSpec)

/-- ITS FALSE NEIGHBOUR: 'it returns false'. Refute it at one input. -/
def fnExactValidMachineWrong : ChangeSpec := { name := "fnExactValidMachine", fn := fun _ => fun
  | [d] => { results := [.lit (.bool false)], args := [d] }
  | _ => none }
def FnExactValidMachineWrongFalsely : Prop := fnExactValidMachineRow.holds Try.pinned (OpenSpec.ofChange fnExactValidMachineWrong)

/-- 'laws.FnExactLeastGap': WHATEVER THE INPUT: true; the input reads as it did. -/
def fnExactLeastGapSpec : ChangeSpec := { name := "fnExactLeastGap", fn := fun _ => fun
  | [d] => { results := [.lit (.bool true)], args := [d] }
  | _ => none }
def fnExactLeastGapRow : OpenClaim := { program := "ythlbcjoogcanmaa", sum := "1d6dd9e455bd5f51b5092011c6a00e5831650252205931acafd2ad71838cca8b", func := "loop.example/g01099/laws.FnExactLeastGap", spec := "fnExactLeastGap", unfollowed := true, recurses := true, apart := false }
def FnExactLeastGapSaid : Prop := fnExactLeastGapRow.holds Try.pinned (OpenSpec.ofChange fnExactLeastGapSpec)

/-- ITS FALSE NEIGHBOUR: 'it returns false'. Refute it at one input. -/
def fnExactLeastGapWrong : ChangeSpec := { name := "fnExactLeastGap", fn := fun _ => fun
  | [d] => { results := [.lit (.bool false)], args := [d] }
  | _ => none }
def FnExactLeastGapWrongFalsely : Prop := fnExactLeastGapRow.holds Try.pinned (OpenSpec.ofChange fnExactLeastGapWrong)

/-- 'laws.FnExactGapsOf': WHATEVER THE INPUT: true; the input reads as it did. -/
def fnExactGapsOfSpec : ChangeSpec := { name := "fnExactGapsOf", fn := fun _ => fun
  | [d] => { results := [.lit (.bool true)], args := [d] }
  | _ => none }
def fnExactGapsOfRow : OpenClaim := { program := "ythlbcjoogcanmaa", sum := "1d6dd9e455bd5f51b5092011c6a00e5831650252205931acafd2ad71838cca8b", func := "loop.example/g01099/laws.FnExactGapsOf", spec := "fnExactGapsOf", unfollowed := true, recurses := true, apart := false }
def FnExactGapsOfSaid : Prop := fnExactGapsOfRow.holds Try.pinned (OpenSpec.ofChange fnExactGapsOfSpec)

/-- ITS FALSE NEIGHBOUR: 'it returns false'. Refute it at one input. -/
def fnExactGapsOfWrong : ChangeSpec := { name := "fnExactGapsOf", fn := fun _ => fun
  | [d] => { results := [.lit (.bool false)], args := [d] }
  | _ => none }
def FnExactGapsOfWrongFalsely : Prop := fnExactGapsOfRow.holds Try.pinned (OpenSpec.ofChange fnExactGapsOfWrong)

/-- 'laws.FnExactStrokesOf': WHATEVER THE INPUT: true; the input reads as it did. -/
def fnExactStrokesOfSpec : ChangeSpec := { name := "fnExactStrokesOf", fn := fun _ => fun
  | [d] => { results := [.lit (.bool true)], args := [d] }
  | _ => none }
def fnExactStrokesOfRow : OpenClaim := { program := "ythlbcjoogcanmaa", sum := "1d6dd9e455bd5f51b5092011c6a00e5831650252205931acafd2ad71838cca8b", func := "loop.example/g01099/laws.FnExactStrokesOf", spec := "fnExactStrokesOf", unfollowed := true, recurses := true, apart := false }
def FnExactStrokesOfSaid : Prop := fnExactStrokesOfRow.holds Try.pinned (OpenSpec.ofChange fnExactStrokesOfSpec)

/-- ITS FALSE NEIGHBOUR: 'it returns false'. Refute it at one input. -/
def fnExactStrokesOfWrong : ChangeSpec := { name := "fnExactStrokesOf", fn := fun _ => fun
  | [d] => { results := [.lit (.bool false)], args := [d] }
  | _ => none }
def FnExactStrokesOfWrongFalsely : Prop := fnExactStrokesOfRow.holds Try.pinned (OpenSpec.ofChange fnExactStrokesOfWrong)

/-- 'laws.FnExactMirrorMachine': WHATEVER THE INPUT: true; the input reads as it did. -/
def fnExactMirrorMachineSpec : ChangeSpec := { name := "fnExactMirrorMachine", fn := fun _ => fun
  | [d] => { results := [.lit (.bool true)], args := [d] }
  | _ => none }
def fnExactMirrorMachineRow : OpenClaim := { program := "ythlbcjoogcanmaa", sum := "1d6dd9e455bd5f51b5092011c6a00e5831650252205931acafd2ad71838cca8b", func := "loop.example/g01099/laws.FnExactMirrorMachine", spec := "fnExactMirrorMachine", unfollowed := true, recurses := true, apart := false }
def FnExactMirrorMachineSaid : Prop := fnExactMirrorMachineRow.holds Try.pinned (OpenSpec.ofChange fnExactMirrorMachineSpec)

/-- ITS FALSE NEIGHBOUR: 'it returns false'. Refute it at one input. -/
def fnExactMirrorMachineWrong : ChangeSpec := { name := "fnExactMirrorMachine", fn := fun _ => fun
  | [d] => { results := [.lit (.bool false)], args := [d] }
  | _ => none }
def FnExactMirrorMachineWrongFalsely : Prop := fnExactMirrorMachineRow.holds Try.pinned (OpenSpec.ofChange fnExactMirrorMachineWrong)

/-- 'laws.FnExactPushRange': WHATEVER THE INPUT: true; the input reads as it did. -/
def fnExactPushRangeSpec : ChangeSpec := { name := "fnExactPushRange", fn := fun _ => fun
  | [d] => { results := [.lit (.bool true)], args := [d] }
  | _ => none }
def fnExactPushRangeRow : OpenClaim := { program := "ythlbcjoogcanmaa", sum := "1d6dd9e455bd5f51b5092011c6a00e5831650252205931acafd2ad71838cca8b", func := "loop.example/g01099/laws.FnExactPushRange", spec := "fnExactPushRange", unfollowed := true, recurses := true, apart := false }
def FnExactPushRangeSaid : Prop := fnExactPushRangeRow.holds Try.pinned (OpenSpec.ofChange fnExactPushRangeSpec)

/-- ITS FALSE NEIGHBOUR: 'it returns false'. Refute it at one input. -/
def fnExactPushRangeWrong : ChangeSpec := { name := "fnExactPushRange", fn := fun _ => fun
  | [d] => { results := [.lit (.bool false)], args := [d] }
  | _ => none }
def FnExactPushRangeWrongFalsely : Prop := fnExactPushRangeRow.holds Try.pinned (OpenSpec.ofChange fnExactPushRangeWrong)

/-- 'laws.FnExactPushMachine': WHATEVER THE INPUT: true; the input reads as it did. -/
def fnExactPushMachineSpec : ChangeSpec := { name := "fnExactPushMachine", fn := fun _ => fun
  | [d1, d2, d3] => { results := [.lit (.bool true)], args := [d1, d2, d3] }
  | _ => none }
def fnExactPushMachineRow : OpenClaim := { program := "ythlbcjoogcanmaa", sum := "1d6dd9e455bd5f51b5092011c6a00e5831650252205931acafd2ad71838cca8b", func := "loop.example/g01099/laws.FnExactPushMachine", spec := "fnExactPushMachine", unfollowed := true, recurses := true, apart := false }
def FnExactPushMachineSaid : Prop := fnExactPushMachineRow.holds Try.pinned (OpenSpec.ofChange fnExactPushMachineSpec)

/-- ITS FALSE NEIGHBOUR: 'it returns false'. Refute it at one input. -/
def fnExactPushMachineWrong : ChangeSpec := { name := "fnExactPushMachine", fn := fun _ => fun
  | [d1, d2, d3] => { results := [.lit (.bool false)], args := [d1, d2, d3] }
  | _ => none }
def FnExactPushMachineWrongFalsely : Prop := fnExactPushMachineRow.holds Try.pinned (OpenSpec.ofChange fnExactPushMachineWrong)

/-- 'laws.FnMirrored': WHATEVER THE INPUT: true; the input reads as it did. -/
def fnMirroredSpec : ChangeSpec := { name := "fnMirrored", fn := fun _ => fun
  | [d1, d2] => { results := [.lit (.bool true)], args := [d1, d2] }
  | _ => none }
def fnMirroredRow : OpenClaim := { program := "ythlbcjoogcanmaa", sum := "1d6dd9e455bd5f51b5092011c6a00e5831650252205931acafd2ad71838cca8b", func := "loop.example/g01099/laws.FnMirrored", spec := "fnMirrored", unfollowed := true, recurses := true, apart := false }
def FnMirroredSaid : Prop := fnMirroredRow.holds Try.pinned (OpenSpec.ofChange fnMirroredSpec)

/-- ITS FALSE NEIGHBOUR: 'it returns false'. Refute it at one input. -/
def fnMirroredWrong : ChangeSpec := { name := "fnMirrored", fn := fun _ => fun
  | [d1, d2] => { results := [.lit (.bool false)], args := [d1, d2] }
  | _ => none }
def FnMirroredWrongFalsely : Prop := fnMirroredRow.holds Try.pinned (OpenSpec.ofChange fnMirroredWrong)

/-- 'laws.FnPushed': WHATEVER THE INPUT: true; the input reads as it did. -/
def fnPushedSpec : ChangeSpec := { name := "fnPushed", fn := fun _ => fun
  | [d1, d2] => { results := [.lit (.bool true)], args := [d1, d2] }
  | _ => none }
def fnPushedRow : OpenClaim := { program := "ythlbcjoogcanmaa", sum := "1d6dd9e455bd5f51b5092011c6a00e5831650252205931acafd2ad71838cca8b", func := "loop.example/g01099/laws.FnPushed", spec := "fnPushed", unfollowed := true, recurses := true, apart := false }
def FnPushedSaid : Prop := fnPushedRow.holds Try.pinned (OpenSpec.ofChange fnPushedSpec)

/-- ITS FALSE NEIGHBOUR: 'it returns false'. Refute it at one input. -/
def fnPushedWrong : ChangeSpec := { name := "fnPushed", fn := fun _ => fun
  | [d1, d2] => { results := [.lit (.bool false)], args := [d1, d2] }
  | _ => none }
def FnPushedWrongFalsely : Prop := fnPushedRow.holds Try.pinned (OpenSpec.ofChange fnPushedWrong)

/-- 'laws.FnExactBuildRing': WHATEVER THE INPUT: true; the input reads as it did. -/
def fnExactBuildRingSpec : ChangeSpec := { name := "fnExactBuildRing", fn := fun _ => fun
  | [d1, d2] => { results := [.lit (.bool true)], args := [d1, d2] }
  | _ => none }
def fnExactBuildRingRow : OpenClaim := { program := "ythlbcjoogcanmaa", sum := "1d6dd9e455bd5f51b5092011c6a00e5831650252205931acafd2ad71838cca8b", func := "loop.example/g01099/laws.FnExactBuildRing", spec := "fnExactBuildRing", unfollowed := true, recurses := true, apart := false }
def FnExactBuildRingSaid : Prop := fnExactBuildRingRow.holds Try.pinned (OpenSpec.ofChange fnExactBuildRingSpec)

/-- ITS FALSE NEIGHBOUR: 'it returns false'. Refute it at one input. -/
def fnExactBuildRingWrong : ChangeSpec := { name := "fnExactBuildRing", fn := fun _ => fun
  | [d1, d2] => { results := [.lit (.bool false)], args := [d1, d2] }
  | _ => none }
def FnExactBuildRingWrongFalsely : Prop := fnExactBuildRingRow.holds Try.pinned (OpenSpec.ofChange fnExactBuildRingWrong)

/-- 'laws.FnExactMachineFrom': WHATEVER THE INPUT: true; the input reads as it did. -/
def fnExactMachineFromSpec : ChangeSpec := { name := "fnExactMachineFrom", fn := fun _ => fun
  | [d1, d2, d3] => { results := [.lit (.bool true)], args := [d1, d2, d3] }
  | _ => none }
def fnExactMachineFromRow : OpenClaim := { program := "ythlbcjoogcanmaa", sum := "1d6dd9e455bd5f51b5092011c6a00e5831650252205931acafd2ad71838cca8b", func := "loop.example/g01099/laws.FnExactMachineFrom", spec := "fnExactMachineFrom", unfollowed := true, recurses := true, apart := false }
def FnExactMachineFromSaid : Prop := fnExactMachineFromRow.holds Try.pinned (OpenSpec.ofChange fnExactMachineFromSpec)

/-- ITS FALSE NEIGHBOUR: 'it returns false'. Refute it at one input. -/
def fnExactMachineFromWrong : ChangeSpec := { name := "fnExactMachineFrom", fn := fun _ => fun
  | [d1, d2, d3] => { results := [.lit (.bool false)], args := [d1, d2, d3] }
  | _ => none }
def FnExactMachineFromWrongFalsely : Prop := fnExactMachineFromRow.holds Try.pinned (OpenSpec.ofChange fnExactMachineFromWrong)

/-- 'laws.FnExactFittingKeys': WHATEVER THE INPUT: true; the input reads as it did. -/
def fnExactFittingKeysSpec : ChangeSpec := { name := "fnExactFittingKeys", fn := fun _ => fun
  | [d] => { results := [.lit (.bool true)], args := [d] }
  | _ => none }
def fnExactFittingKeysRow : OpenClaim := { program := "ythlbcjoogcanmaa", sum := "1d6dd9e455bd5f51b5092011c6a00e5831650252205931acafd2ad71838cca8b", func := "loop.example/g01099/laws.FnExactFittingKeys", spec := "fnExactFittingKeys", unfollowed := true, recurses := true, apart := false }
def FnExactFittingKeysSaid : Prop := fnExactFittingKeysRow.holds Try.pinned (OpenSpec.ofChange fnExactFittingKeysSpec)

/-- ITS FALSE NEIGHBOUR: 'it returns false'. Refute it at one input. -/
def fnExactFittingKeysWrong : ChangeSpec := { name := "fnExactFittingKeys", fn := fun _ => fun
  | [d] => { results := [.lit (.bool false)], args := [d] }
  | _ => none }
def FnExactFittingKeysWrongFalsely : Prop := fnExactFittingKeysRow.holds Try.pinned (OpenSpec.ofChange fnExactFittingKeysWrong)

/- THE SECOND FORM. 'bulk': how many values and letters a reading holds, each counted each time it is reached (what is shared counts as often as it is met; a slice's spare places count too). A statement '..UptoSaid' is the law's where the arguments, and the package variables that the reading takes, are together of bulk at most 1048576: NARROWER than '..Said'. Prove '..Said' where nothing that the law and all that it calls make is longer than what came in: it says more and counts as full. Else prove '..UptoSaid'. A law counts once. -/
mutual
def uptoBulk {H : Type} : DataW H → Nat
  | .lit (.string bytes) => bytes.length + 1
  | .lit _ => 1
  | .nil => 1
  | .ptr d => uptoBulk d + 1
  | .slice elems spare => uptoBulkAll elems + uptoBulkAll spare + 1
  | .agg parts => uptoBulkAll parts + 1
  | .iface _ d => uptoBulk d + 1
  | .map entries => uptoBulkEntries entries + 1
  | .held _ => 1
def uptoBulkAll {H : Type} : List (DataW H) → Nat
  | [] => 0
  | d :: r => uptoBulk d + uptoBulkAll r
def uptoBulkEntries {H : Type} : List (Lit × DataW H) → Nat
  | [] => 0
  | x :: r => uptoBulkEntry x + uptoBulkEntries r
def uptoBulkEntry {H : Type} : Lit × DataW H → Nat
  | (.string bytes, d) => bytes.length + uptoBulk d + 1
  | (_, d) => uptoBulk d + 1
 end
def uptoSmall : (H : Type) → List (DataW H) → Bool := fun _ ds => decide (uptoBulkAll ds ≤ 1048576)
def OpenSpec.upto (s : _root_.Go.ChangeSpec) : _root_.Go.OpenSpec := { _root_.Go.OpenSpec.ofChange s with cond := some uptoSmall }

/-- 'laws.FnExactValidPose', WHERE WHAT IT READS IS OF BULK AT MOST 1048576: true; the input reads as it did. -/
def fnExactValidPoseUptoRow : OpenClaim := { program := "ythlbcjoogcanmaa", sum := "1d6dd9e455bd5f51b5092011c6a00e5831650252205931acafd2ad71838cca8b", func := "loop.example/g01099/laws.FnExactValidPose", spec := "fnExactValidPose", unfollowed := true, recurses := true, apart := false, narrowed := true }
def FnExactValidPoseUptoSaid : Prop := fnExactValidPoseUptoRow.holds Try.pinned (OpenSpec.upto fnExactValidPoseSpec)

/-- 'laws.FnExactNextPose', WHERE WHAT IT READS IS OF BULK AT MOST 1048576: true; the input reads as it did. -/
def fnExactNextPoseUptoRow : OpenClaim := { program := "ythlbcjoogcanmaa", sum := "1d6dd9e455bd5f51b5092011c6a00e5831650252205931acafd2ad71838cca8b", func := "loop.example/g01099/laws.FnExactNextPose", spec := "fnExactNextPose", unfollowed := true, recurses := true, apart := false, narrowed := true }
def FnExactNextPoseUptoSaid : Prop := fnExactNextPoseUptoRow.holds Try.pinned (OpenSpec.upto fnExactNextPoseSpec)

/-- 'laws.FnExactValidAxis', WHERE WHAT IT READS IS OF BULK AT MOST 1048576: true; the input reads as it did. -/
def fnExactValidAxisUptoRow : OpenClaim := { program := "ythlbcjoogcanmaa", sum := "1d6dd9e455bd5f51b5092011c6a00e5831650252205931acafd2ad71838cca8b", func := "loop.example/g01099/laws.FnExactValidAxis", spec := "fnExactValidAxis", unfollowed := true, recurses := true, apart := false, narrowed := true }
def FnExactValidAxisUptoSaid : Prop := fnExactValidAxisUptoRow.holds Try.pinned (OpenSpec.upto fnExactValidAxisSpec)

/-- 'laws.FnExactRingsOf', WHERE WHAT IT READS IS OF BULK AT MOST 1048576: true; the input reads as it did. -/
def fnExactRingsOfUptoRow : OpenClaim := { program := "ythlbcjoogcanmaa", sum := "1d6dd9e455bd5f51b5092011c6a00e5831650252205931acafd2ad71838cca8b", func := "loop.example/g01099/laws.FnExactRingsOf", spec := "fnExactRingsOf", unfollowed := true, recurses := true, apart := false, narrowed := true }
def FnExactRingsOfUptoSaid : Prop := fnExactRingsOfUptoRow.holds Try.pinned (OpenSpec.upto fnExactRingsOfSpec)

/-- 'laws.FnLow', WHERE WHAT IT READS IS OF BULK AT MOST 1048576: true; the input reads as it did. -/
def fnLowUptoRow : OpenClaim := { program := "ythlbcjoogcanmaa", sum := "1d6dd9e455bd5f51b5092011c6a00e5831650252205931acafd2ad71838cca8b", func := "loop.example/g01099/laws.FnLow", spec := "fnLow", unfollowed := true, recurses := true, apart := false, narrowed := true }
def FnLowUptoSaid : Prop := fnLowUptoRow.holds Try.pinned (OpenSpec.upto fnLowSpec)

/-- 'laws.FnExactValidMachine', WHERE WHAT IT READS IS OF BULK AT MOST 1048576: true; the input reads as it did. -/
def fnExactValidMachineUptoRow : OpenClaim := { program := "ythlbcjoogcanmaa", sum := "1d6dd9e455bd5f51b5092011c6a00e5831650252205931acafd2ad71838cca8b", func := "loop.example/g01099/laws.FnExactValidMachine", spec := "fnExactValidMachine", unfollowed := true, recurses := true, apart := false, narrowed := true }
def FnExactValidMachineUptoSaid : Prop := fnExactValidMachineUptoRow.holds Try.pinned (OpenSpec.upto fnExactValidMachineSpec)

/-- 'laws.FnExactLeastGap', WHERE WHAT IT READS IS OF BULK AT MOST 1048576: true; the input reads as it did. -/
def fnExactLeastGapUptoRow : OpenClaim := { program := "ythlbcjoogcanmaa", sum := "1d6dd9e455bd5f51b5092011c6a00e5831650252205931acafd2ad71838cca8b", func := "loop.example/g01099/laws.FnExactLeastGap", spec := "fnExactLeastGap", unfollowed := true, recurses := true, apart := false, narrowed := true }
def FnExactLeastGapUptoSaid : Prop := fnExactLeastGapUptoRow.holds Try.pinned (OpenSpec.upto fnExactLeastGapSpec)

/-- 'laws.FnExactGapsOf', WHERE WHAT IT READS IS OF BULK AT MOST 1048576: true; the input reads as it did. -/
def fnExactGapsOfUptoRow : OpenClaim := { program := "ythlbcjoogcanmaa", sum := "1d6dd9e455bd5f51b5092011c6a00e5831650252205931acafd2ad71838cca8b", func := "loop.example/g01099/laws.FnExactGapsOf", spec := "fnExactGapsOf", unfollowed := true, recurses := true, apart := false, narrowed := true }
def FnExactGapsOfUptoSaid : Prop := fnExactGapsOfUptoRow.holds Try.pinned (OpenSpec.upto fnExactGapsOfSpec)

/-- 'laws.FnExactStrokesOf', WHERE WHAT IT READS IS OF BULK AT MOST 1048576: true; the input reads as it did. -/
def fnExactStrokesOfUptoRow : OpenClaim := { program := "ythlbcjoogcanmaa", sum := "1d6dd9e455bd5f51b5092011c6a00e5831650252205931acafd2ad71838cca8b", func := "loop.example/g01099/laws.FnExactStrokesOf", spec := "fnExactStrokesOf", unfollowed := true, recurses := true, apart := false, narrowed := true }
def FnExactStrokesOfUptoSaid : Prop := fnExactStrokesOfUptoRow.holds Try.pinned (OpenSpec.upto fnExactStrokesOfSpec)

/-- 'laws.FnExactMirrorMachine', WHERE WHAT IT READS IS OF BULK AT MOST 1048576: true; the input reads as it did. -/
def fnExactMirrorMachineUptoRow : OpenClaim := { program := "ythlbcjoogcanmaa", sum := "1d6dd9e455bd5f51b5092011c6a00e5831650252205931acafd2ad71838cca8b", func := "loop.example/g01099/laws.FnExactMirrorMachine", spec := "fnExactMirrorMachine", unfollowed := true, recurses := true, apart := false, narrowed := true }
def FnExactMirrorMachineUptoSaid : Prop := fnExactMirrorMachineUptoRow.holds Try.pinned (OpenSpec.upto fnExactMirrorMachineSpec)

/-- 'laws.FnExactPushRange', WHERE WHAT IT READS IS OF BULK AT MOST 1048576: true; the input reads as it did. -/
def fnExactPushRangeUptoRow : OpenClaim := { program := "ythlbcjoogcanmaa", sum := "1d6dd9e455bd5f51b5092011c6a00e5831650252205931acafd2ad71838cca8b", func := "loop.example/g01099/laws.FnExactPushRange", spec := "fnExactPushRange", unfollowed := true, recurses := true, apart := false, narrowed := true }
def FnExactPushRangeUptoSaid : Prop := fnExactPushRangeUptoRow.holds Try.pinned (OpenSpec.upto fnExactPushRangeSpec)

/-- 'laws.FnExactPushMachine', WHERE WHAT IT READS IS OF BULK AT MOST 1048576: true; the input reads as it did. -/
def fnExactPushMachineUptoRow : OpenClaim := { program := "ythlbcjoogcanmaa", sum := "1d6dd9e455bd5f51b5092011c6a00e5831650252205931acafd2ad71838cca8b", func := "loop.example/g01099/laws.FnExactPushMachine", spec := "fnExactPushMachine", unfollowed := true, recurses := true, apart := false, narrowed := true }
def FnExactPushMachineUptoSaid : Prop := fnExactPushMachineUptoRow.holds Try.pinned (OpenSpec.upto fnExactPushMachineSpec)

/-- 'laws.FnMirrored', WHERE WHAT IT READS IS OF BULK AT MOST 1048576: true; the input reads as it did. -/
def fnMirroredUptoRow : OpenClaim := { program := "ythlbcjoogcanmaa", sum := "1d6dd9e455bd5f51b5092011c6a00e5831650252205931acafd2ad71838cca8b", func := "loop.example/g01099/laws.FnMirrored", spec := "fnMirrored", unfollowed := true, recurses := true, apart := false, narrowed := true }
def FnMirroredUptoSaid : Prop := fnMirroredUptoRow.holds Try.pinned (OpenSpec.upto fnMirroredSpec)

/-- 'laws.FnPushed', WHERE WHAT IT READS IS OF BULK AT MOST 1048576: true; the input reads as it did. -/
def fnPushedUptoRow : OpenClaim := { program := "ythlbcjoogcanmaa", sum := "1d6dd9e455bd5f51b5092011c6a00e5831650252205931acafd2ad71838cca8b", func := "loop.example/g01099/laws.FnPushed", spec := "fnPushed", unfollowed := true, recurses := true, apart := false, narrowed := true }
def FnPushedUptoSaid : Prop := fnPushedUptoRow.holds Try.pinned (OpenSpec.upto fnPushedSpec)

/-- 'laws.FnExactBuildRing', WHERE WHAT IT READS IS OF BULK AT MOST 1048576: true; the input reads as it did. -/
def fnExactBuildRingUptoRow : OpenClaim := { program := "ythlbcjoogcanmaa", sum := "1d6dd9e455bd5f51b5092011c6a00e5831650252205931acafd2ad71838cca8b", func := "loop.example/g01099/laws.FnExactBuildRing", spec := "fnExactBuildRing", unfollowed := true, recurses := true, apart := false, narrowed := true }
def FnExactBuildRingUptoSaid : Prop := fnExactBuildRingUptoRow.holds Try.pinned (OpenSpec.upto fnExactBuildRingSpec)

/-- 'laws.FnExactMachineFrom', WHERE WHAT IT READS IS OF BULK AT MOST 1048576: true; the input reads as it did. -/
def fnExactMachineFromUptoRow : OpenClaim := { program := "ythlbcjoogcanmaa", sum := "1d6dd9e455bd5f51b5092011c6a00e5831650252205931acafd2ad71838cca8b", func := "loop.example/g01099/laws.FnExactMachineFrom", spec := "fnExactMachineFrom", unfollowed := true, recurses := true, apart := false, narrowed := true }
def FnExactMachineFromUptoSaid : Prop := fnExactMachineFromUptoRow.holds Try.pinned (OpenSpec.upto fnExactMachineFromSpec)

/-- 'laws.FnExactFittingKeys', WHERE WHAT IT READS IS OF BULK AT MOST 1048576: true; the input reads as it did. -/
def fnExactFittingKeysUptoRow : OpenClaim := { program := "ythlbcjoogcanmaa", sum := "1d6dd9e455bd5f51b5092011c6a00e5831650252205931acafd2ad71838cca8b", func := "loop.example/g01099/laws.FnExactFittingKeys", spec := "fnExactFittingKeys", unfollowed := true, recurses := true, apart := false, narrowed := true }
def FnExactFittingKeysUptoSaid : Prop := fnExactFittingKeysUptoRow.holds Try.pinned (OpenSpec.upto fnExactFittingKeysSpec)

end Rows
end Go.Proofs.Ythlbcjoogcanmaa
