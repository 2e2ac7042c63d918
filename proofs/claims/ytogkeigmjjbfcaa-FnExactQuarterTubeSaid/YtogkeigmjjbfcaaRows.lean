/-
  No cell of these rows narrows 'for every input' (looked for: loops, veiled, ifaces, maps, wideKeys, modest, calm, conditions, laid).
  DERIVED. THE GIVEN ROWS OF THIS SEAT. 10 by the template 'for every input the law returns true; each argument reads behind the call as it read before'; 0 by the template 'total and deterministic' (their statements: YtogkeigmjjbfcaaTotals.lean).
  GIVEN WITH THE SEED: the statements are not yours to turn. If you find one false, say at which input.
  Laid BY PROGRAM, IN A SANDBOX (cutbox-rows.mjs): the forced cells as the released guide's own fill.sh prints them over the translation d0e8618063b63c3a… (all of the seat's roots in one cut). By AI agents, Wed Nov 11 2026. No macro, syntax, notation, axiom, sorry.
-/
import Derived.Test.YtogkeigmjjbfcaaChecked
import GoSem.Claim
import GoSem.ClaimJoined
import GoSem.ClaimMapViews
import Derived.JoinedTies
import Derived.KernelRfl
namespace Go.Proofs.Ytogkeigmjjbfcaa
/- THE CELL 'sum', in the pinned program and in every row, IS THE sha256 OF THE DUMP (.gsa) THAT YtogkeigmjjbfcaaProg.lean LOADS. Nothing in Lean hashes anything: it is a label: what it is worth is what the hold of that sum in a sandbox is worth. -/
noncomputable def Try.pinned : Pinned := { name := "ytogkeigmjjbfcaa", sum := "d0e8618063b63c3a90a9a2ddd79ff86dd3dc134b51f20626b558159e6b97ce33", checked := Try.checked }
namespace Rows
def none {H : Type} : Left H := { results := [], args := [] }

/-- 'laws.FnExactTurnOf': WHATEVER THE INPUT: true; the input reads as it did. -/
def fnExactTurnOfSpec : ChangeSpec := { name := "fnExactTurnOf", fn := fun _ => fun
  | [d] => { results := [.lit (.bool true)], args := [d] }
  | _ => none }
def fnExactTurnOfRow : OpenClaim := { program := "ytogkeigmjjbfcaa", sum := "d0e8618063b63c3a90a9a2ddd79ff86dd3dc134b51f20626b558159e6b97ce33", func := "loop.example/g01099/laws.FnExactTurnOf", spec := "fnExactTurnOf", apart := false }
def FnExactTurnOfSaid : Prop := fnExactTurnOfRow.holds Try.pinned (OpenSpec.ofChange fnExactTurnOfSpec)

/-- ITS FALSE NEIGHBOUR: 'it returns false'. Refute it at one input. -/
def fnExactTurnOfWrong : ChangeSpec := { name := "fnExactTurnOf", fn := fun _ => fun
  | [d] => { results := [.lit (.bool false)], args := [d] }
  | _ => none }
def FnExactTurnOfWrongFalsely : Prop := fnExactTurnOfRow.holds Try.pinned (OpenSpec.ofChange fnExactTurnOfWrong)

/-- 'laws.FnExactJointsOf': WHATEVER THE INPUT: true; the input reads as it did. -/
def fnExactJointsOfSpec : ChangeSpec := { name := "fnExactJointsOf", fn := fun _ => fun
  | [d] => { results := [.lit (.bool true)], args := [d] }
  | _ => none }
def fnExactJointsOfRow : OpenClaim := { program := "ytogkeigmjjbfcaa", sum := "d0e8618063b63c3a90a9a2ddd79ff86dd3dc134b51f20626b558159e6b97ce33", func := "loop.example/g01099/laws.FnExactJointsOf", spec := "fnExactJointsOf", recurses := true, apart := false }
def FnExactJointsOfSaid : Prop := fnExactJointsOfRow.holds Try.pinned (OpenSpec.ofChange fnExactJointsOfSpec)

/-- ITS FALSE NEIGHBOUR: 'it returns false'. Refute it at one input. -/
def fnExactJointsOfWrong : ChangeSpec := { name := "fnExactJointsOf", fn := fun _ => fun
  | [d] => { results := [.lit (.bool false)], args := [d] }
  | _ => none }
def FnExactJointsOfWrongFalsely : Prop := fnExactJointsOfRow.holds Try.pinned (OpenSpec.ofChange fnExactJointsOfWrong)

/-- 'laws.FnExactNextKeys': WHATEVER THE INPUT: true; the input reads as it did. -/
def fnExactNextKeysSpec : ChangeSpec := { name := "fnExactNextKeys", fn := fun _ => fun
  | [d] => { results := [.lit (.bool true)], args := [d] }
  | _ => none }
def fnExactNextKeysRow : OpenClaim := { program := "ytogkeigmjjbfcaa", sum := "d0e8618063b63c3a90a9a2ddd79ff86dd3dc134b51f20626b558159e6b97ce33", func := "loop.example/g01099/laws.FnExactNextKeys", spec := "fnExactNextKeys", recurses := true, apart := false }
def FnExactNextKeysSaid : Prop := fnExactNextKeysRow.holds Try.pinned (OpenSpec.ofChange fnExactNextKeysSpec)

/-- ITS FALSE NEIGHBOUR: 'it returns false'. Refute it at one input. -/
def fnExactNextKeysWrong : ChangeSpec := { name := "fnExactNextKeys", fn := fun _ => fun
  | [d] => { results := [.lit (.bool false)], args := [d] }
  | _ => none }
def FnExactNextKeysWrongFalsely : Prop := fnExactNextKeysRow.holds Try.pinned (OpenSpec.ofChange fnExactNextKeysWrong)

/-- 'laws.FnExactMeetingJoints': WHATEVER THE INPUT: true; the input reads as it did. -/
def fnExactMeetingJointsSpec : ChangeSpec := { name := "fnExactMeetingJoints", fn := fun _ => fun
  | [d1, d2] => { results := [.lit (.bool true)], args := [d1, d2] }
  | _ => none }
def fnExactMeetingJointsRow : OpenClaim := { program := "ytogkeigmjjbfcaa", sum := "d0e8618063b63c3a90a9a2ddd79ff86dd3dc134b51f20626b558159e6b97ce33", func := "loop.example/g01099/laws.FnExactMeetingJoints", spec := "fnExactMeetingJoints", recurses := true, apart := false }
def FnExactMeetingJointsSaid : Prop := fnExactMeetingJointsRow.holds Try.pinned (OpenSpec.ofChange fnExactMeetingJointsSpec)

/-- ITS FALSE NEIGHBOUR: 'it returns false'. Refute it at one input. -/
def fnExactMeetingJointsWrong : ChangeSpec := { name := "fnExactMeetingJoints", fn := fun _ => fun
  | [d1, d2] => { results := [.lit (.bool false)], args := [d1, d2] }
  | _ => none }
def FnExactMeetingJointsWrongFalsely : Prop := fnExactMeetingJointsRow.holds Try.pinned (OpenSpec.ofChange fnExactMeetingJointsWrong)

/-- 'laws.FnExactValidTube': WHATEVER THE INPUT: true; the input reads as it did. -/
def fnExactValidTubeSpec : ChangeSpec := { name := "fnExactValidTube", fn := fun _ => fun
  | [d] => { results := [.lit (.bool true)], args := [d] }
  | _ => none }
def fnExactValidTubeRow : OpenClaim := { program := "ytogkeigmjjbfcaa", sum := "d0e8618063b63c3a90a9a2ddd79ff86dd3dc134b51f20626b558159e6b97ce33", func := "loop.example/g01099/laws.FnExactValidTube", spec := "fnExactValidTube", recurses := true, apart := false }
def FnExactValidTubeSaid : Prop := fnExactValidTubeRow.holds Try.pinned (OpenSpec.ofChange fnExactValidTubeSpec)

/-- ITS FALSE NEIGHBOUR: 'it returns false'. Refute it at one input. -/
def fnExactValidTubeWrong : ChangeSpec := { name := "fnExactValidTube", fn := fun _ => fun
  | [d] => { results := [.lit (.bool false)], args := [d] }
  | _ => none }
def FnExactValidTubeWrongFalsely : Prop := fnExactValidTubeRow.holds Try.pinned (OpenSpec.ofChange fnExactValidTubeWrong)

/-- 'laws.FnExactTotalTurn': WHATEVER THE INPUT: true; the input reads as it did. -/
def fnExactTotalTurnSpec : ChangeSpec := { name := "fnExactTotalTurn", fn := fun _ => fun
  | [d] => { results := [.lit (.bool true)], args := [d] }
  | _ => none }
def fnExactTotalTurnRow : OpenClaim := { program := "ytogkeigmjjbfcaa", sum := "d0e8618063b63c3a90a9a2ddd79ff86dd3dc134b51f20626b558159e6b97ce33", func := "loop.example/g01099/laws.FnExactTotalTurn", spec := "fnExactTotalTurn", recurses := true, apart := false }
def FnExactTotalTurnSaid : Prop := fnExactTotalTurnRow.holds Try.pinned (OpenSpec.ofChange fnExactTotalTurnSpec)

/-- ITS FALSE NEIGHBOUR: 'it returns false'. Refute it at one input. -/
def fnExactTotalTurnWrong : ChangeSpec := { name := "fnExactTotalTurn", fn := fun _ => fun
  | [d] => { results := [.lit (.bool false)], args := [d] }
  | _ => none }
def FnExactTotalTurnWrongFalsely : Prop := fnExactTotalTurnRow.holds Try.pinned (OpenSpec.ofChange fnExactTotalTurnWrong)

/-- 'laws.FnExactMirrorTube': WHATEVER THE INPUT: true; the input reads as it did. -/
def fnExactMirrorTubeSpec : ChangeSpec := { name := "fnExactMirrorTube", fn := fun _ => fun
  | [d] => { results := [.lit (.bool true)], args := [d] }
  | _ => none }
def fnExactMirrorTubeRow : OpenClaim := { program := "ytogkeigmjjbfcaa", sum := "d0e8618063b63c3a90a9a2ddd79ff86dd3dc134b51f20626b558159e6b97ce33", func := "loop.example/g01099/laws.FnExactMirrorTube", spec := "fnExactMirrorTube", unfollowed := true, recurses := true, apart := false }
def FnExactMirrorTubeSaid : Prop := fnExactMirrorTubeRow.holds Try.pinned (OpenSpec.ofChange fnExactMirrorTubeSpec)

/-- ITS FALSE NEIGHBOUR: 'it returns false'. Refute it at one input. -/
def fnExactMirrorTubeWrong : ChangeSpec := { name := "fnExactMirrorTube", fn := fun _ => fun
  | [d] => { results := [.lit (.bool false)], args := [d] }
  | _ => none }
def FnExactMirrorTubeWrongFalsely : Prop := fnExactMirrorTubeRow.holds Try.pinned (OpenSpec.ofChange fnExactMirrorTubeWrong)

/-- 'laws.FnExactQuarterTube': WHATEVER THE INPUT: true; the input reads as it did. -/
def fnExactQuarterTubeSpec : ChangeSpec := { name := "fnExactQuarterTube", fn := fun _ => fun
  | [d] => { results := [.lit (.bool true)], args := [d] }
  | _ => none }
def fnExactQuarterTubeRow : OpenClaim := { program := "ytogkeigmjjbfcaa", sum := "d0e8618063b63c3a90a9a2ddd79ff86dd3dc134b51f20626b558159e6b97ce33", func := "loop.example/g01099/laws.FnExactQuarterTube", spec := "fnExactQuarterTube", unfollowed := true, recurses := true, apart := false }
def FnExactQuarterTubeSaid : Prop := fnExactQuarterTubeRow.holds Try.pinned (OpenSpec.ofChange fnExactQuarterTubeSpec)

/-- ITS FALSE NEIGHBOUR: 'it returns false'. Refute it at one input. -/
def fnExactQuarterTubeWrong : ChangeSpec := { name := "fnExactQuarterTube", fn := fun _ => fun
  | [d] => { results := [.lit (.bool false)], args := [d] }
  | _ => none }
def FnExactQuarterTubeWrongFalsely : Prop := fnExactQuarterTubeRow.holds Try.pinned (OpenSpec.ofChange fnExactQuarterTubeWrong)

/-- 'laws.FnJoints': WHATEVER THE INPUT: true; the input reads as it did. -/
def fnJointsSpec : ChangeSpec := { name := "fnJoints", fn := fun _ => fun
  | [d1, d2] => { results := [.lit (.bool true)], args := [d1, d2] }
  | _ => none }
def fnJointsRow : OpenClaim := { program := "ytogkeigmjjbfcaa", sum := "d0e8618063b63c3a90a9a2ddd79ff86dd3dc134b51f20626b558159e6b97ce33", func := "loop.example/g01099/laws.FnJoints", spec := "fnJoints", recurses := true, apart := false }
def FnJointsSaid : Prop := fnJointsRow.holds Try.pinned (OpenSpec.ofChange fnJointsSpec)

/-- ITS FALSE NEIGHBOUR: 'it returns false'. Refute it at one input. -/
def fnJointsWrong : ChangeSpec := { name := "fnJoints", fn := fun _ => fun
  | [d1, d2] => { results := [.lit (.bool false)], args := [d1, d2] }
  | _ => none }
def FnJointsWrongFalsely : Prop := fnJointsRow.holds Try.pinned (OpenSpec.ofChange fnJointsWrong)

/-- 'laws.FnExactNearestTurn': WHATEVER THE INPUT: true; the input reads as it did. -/
def fnExactNearestTurnSpec : ChangeSpec := { name := "fnExactNearestTurn", fn := fun _ => fun
  | [d1, d2, d3, d4] => { results := [.lit (.bool true)], args := [d1, d2, d3, d4] }
  | _ => none }
def fnExactNearestTurnRow : OpenClaim := { program := "ytogkeigmjjbfcaa", sum := "d0e8618063b63c3a90a9a2ddd79ff86dd3dc134b51f20626b558159e6b97ce33", func := "loop.example/g01099/laws.FnExactNearestTurn", spec := "fnExactNearestTurn", unfollowed := true, recurses := true, apart := false }
def FnExactNearestTurnSaid : Prop := fnExactNearestTurnRow.holds Try.pinned (OpenSpec.ofChange fnExactNearestTurnSpec)

/-- ITS FALSE NEIGHBOUR: 'it returns false'. Refute it at one input. -/
def fnExactNearestTurnWrong : ChangeSpec := { name := "fnExactNearestTurn", fn := fun _ => fun
  | [d1, d2, d3, d4] => { results := [.lit (.bool false)], args := [d1, d2, d3, d4] }
  | _ => none }
def FnExactNearestTurnWrongFalsely : Prop := fnExactNearestTurnRow.holds Try.pinned (OpenSpec.ofChange fnExactNearestTurnWrong)

/- THE SECOND FORM. 'bulk': how many values and letters a reading holds, each counted each time it is reached (what is shared counts as often as it is met; a slice's spare places count too). A statement '..UptoSaid' is the law's where the arguments, and the package variables that the reading takes, are together of bulk at most 1048576: NARROWER than '..Said'. Prove '..Said' where nothing that the law and all that it calls make is longer than what came in: it says more and counts as full. Else prove '..UptoSaid'. A law counts once. -/
mutual
def uptoBulk {H : Type} : DataW H → Nat
  | .lit (.string bytes) => bytes.length + 1
  | .lit _ => 1
  | .nil => 1
  | .ptr d => uptoBulk d + 1
  | .slice elems spare => uptoBulkAll elems + uptoBulkAll spare + 1
  | .agg parts => uptoBulkAll parts + 1
  | .iface _ d => uptoBulk d + 1
  | .map entries => uptoBulkEntries entries + 1
  | .held _ => 1
def uptoBulkAll {H : Type} : List (DataW H) → Nat
  | [] => 0
  | d :: r => uptoBulk d + uptoBulkAll r
def uptoBulkEntries {H : Type} : List (Lit × DataW H) → Nat
  | [] => 0
  | x :: r => uptoBulkEntry x + uptoBulkEntries r
def uptoBulkEntry {H : Type} : Lit × DataW H → Nat
  | (.string bytes, d) => bytes.length + uptoBulk d + 1
  | (_, d) => uptoBulk d + 1
 end
def uptoSmall : (H : Type) → List (DataW H) → Bool := fun _ ds => decide (uptoBulkAll ds ≤ 1048576)
def OpenSpec.upto (s : _root_.Go.ChangeSpec) : _root_.Go.OpenSpec := { _root_.Go.OpenSpec.ofChange s with cond := some uptoSmall }

/-- 'laws.FnExactTurnOf', WHERE WHAT IT READS IS OF BULK AT MOST 1048576: true; the input reads as it did. -/
def fnExactTurnOfUptoRow : OpenClaim := { program := "ytogkeigmjjbfcaa", sum := "d0e8618063b63c3a90a9a2ddd79ff86dd3dc134b51f20626b558159e6b97ce33", func := "loop.example/g01099/laws.FnExactTurnOf", spec := "fnExactTurnOf", apart := false, narrowed := true }
def FnExactTurnOfUptoSaid : Prop := fnExactTurnOfUptoRow.holds Try.pinned (OpenSpec.upto fnExactTurnOfSpec)

/-- 'laws.FnExactJointsOf', WHERE WHAT IT READS IS OF BULK AT MOST 1048576: true; the input reads as it did. -/
def fnExactJointsOfUptoRow : OpenClaim := { program := "ytogkeigmjjbfcaa", sum := "d0e8618063b63c3a90a9a2ddd79ff86dd3dc134b51f20626b558159e6b97ce33", func := "loop.example/g01099/laws.FnExactJointsOf", spec := "fnExactJointsOf", recurses := true, apart := false, narrowed := true }
def FnExactJointsOfUptoSaid : Prop := fnExactJointsOfUptoRow.holds Try.pinned (OpenSpec.upto fnExactJointsOfSpec)

/-- 'laws.FnExactNextKeys', WHERE WHAT IT READS IS OF BULK AT MOST 1048576: true; the input reads as it did. -/
def fnExactNextKeysUptoRow : OpenClaim := { program := "ytogkeigmjjbfcaa", sum := "d0e8618063b63c3a90a9a2ddd79ff86dd3dc134b51f20626b558159e6b97ce33", func := "loop.example/g01099/laws.FnExactNextKeys", spec := "fnExactNextKeys", recurses := true, apart := false, narrowed := true }
def FnExactNextKeysUptoSaid : Prop := fnExactNextKeysUptoRow.holds Try.pinned (OpenSpec.upto fnExactNextKeysSpec)

/-- 'laws.FnExactMeetingJoints', WHERE WHAT IT READS IS OF BULK AT MOST 1048576: true; the input reads as it did. -/
def fnExactMeetingJointsUptoRow : OpenClaim := { program := "ytogkeigmjjbfcaa", sum := "d0e8618063b63c3a90a9a2ddd79ff86dd3dc134b51f20626b558159e6b97ce33", func := "loop.example/g01099/laws.FnExactMeetingJoints", spec := "fnExactMeetingJoints", recurses := true, apart := false, narrowed := true }
def FnExactMeetingJointsUptoSaid : Prop := fnExactMeetingJointsUptoRow.holds Try.pinned (OpenSpec.upto fnExactMeetingJointsSpec)

/-- 'laws.FnExactValidTube', WHERE WHAT IT READS IS OF BULK AT MOST 1048576: true; the input reads as it did. -/
def fnExactValidTubeUptoRow : OpenClaim := { program := "ytogkeigmjjbfcaa", sum := "d0e8618063b63c3a90a9a2ddd79ff86dd3dc134b51f20626b558159e6b97ce33", func := "loop.example/g01099/laws.FnExactValidTube", spec := "fnExactValidTube", recurses := true, apart := false, narrowed := true }
def FnExactValidTubeUptoSaid : Prop := fnExactValidTubeUptoRow.holds Try.pinned (OpenSpec.upto fnExactValidTubeSpec)

/-- 'laws.FnExactTotalTurn', WHERE WHAT IT READS IS OF BULK AT MOST 1048576: true; the input reads as it did. -/
def fnExactTotalTurnUptoRow : OpenClaim := { program := "ytogkeigmjjbfcaa", sum := "d0e8618063b63c3a90a9a2ddd79ff86dd3dc134b51f20626b558159e6b97ce33", func := "loop.example/g01099/laws.FnExactTotalTurn", spec := "fnExactTotalTurn", recurses := true, apart := false, narrowed := true }
def FnExactTotalTurnUptoSaid : Prop := fnExactTotalTurnUptoRow.holds Try.pinned (OpenSpec.upto fnExactTotalTurnSpec)

/-- 'laws.FnExactMirrorTube', WHERE WHAT IT READS IS OF BULK AT MOST 1048576: true; the input reads as it did. -/
def fnExactMirrorTubeUptoRow : OpenClaim := { program := "ytogkeigmjjbfcaa", sum := "d0e8618063b63c3a90a9a2ddd79ff86dd3dc134b51f20626b558159e6b97ce33", func := "loop.example/g01099/laws.FnExactMirrorTube", spec := "fnExactMirrorTube", unfollowed := true, recurses := true, apart := false, narrowed := true }
def FnExactMirrorTubeUptoSaid : Prop := fnExactMirrorTubeUptoRow.holds Try.pinned (OpenSpec.upto fnExactMirrorTubeSpec)

/-- 'laws.FnExactQuarterTube', WHERE WHAT IT READS IS OF BULK AT MOST 1048576: true; the input reads as it did. -/
def fnExactQuarterTubeUptoRow : OpenClaim := { program := "ytogkeigmjjbfcaa", sum := "d0e8618063b63c3a90a9a2ddd79ff86dd3dc134b51f20626b558159e6b97ce33", func := "loop.example/g01099/laws.FnExactQuarterTube", spec := "fnExactQuarterTube", unfollowed := true, recurses := true, apart := false, narrowed := true }
def FnExactQuarterTubeUptoSaid : Prop := fnExactQuarterTubeUptoRow.holds Try.pinned (OpenSpec.upto fnExactQuarterTubeSpec)

/-- 'laws.FnJoints', WHERE WHAT IT READS IS OF BULK AT MOST 1048576: true; the input reads as it did. -/
def fnJointsUptoRow : OpenClaim := { program := "ytogkeigmjjbfcaa", sum := "d0e8618063b63c3a90a9a2ddd79ff86dd3dc134b51f20626b558159e6b97ce33", func := "loop.example/g01099/laws.FnJoints", spec := "fnJoints", recurses := true, apart := false, narrowed := true }
def FnJointsUptoSaid : Prop := fnJointsUptoRow.holds Try.pinned (OpenSpec.upto fnJointsSpec)

/-- 'laws.FnExactNearestTurn', WHERE WHAT IT READS IS OF BULK AT MOST 1048576: true; the input reads as it did. -/
def fnExactNearestTurnUptoRow : OpenClaim := { program := "ytogkeigmjjbfcaa", sum := "d0e8618063b63c3a90a9a2ddd79ff86dd3dc134b51f20626b558159e6b97ce33", func := "loop.example/g01099/laws.FnExactNearestTurn", spec := "fnExactNearestTurn", unfollowed := true, recurses := true, apart := false, narrowed := true }
def FnExactNearestTurnUptoSaid : Prop := fnExactNearestTurnUptoRow.holds Try.pinned (OpenSpec.upto fnExactNearestTurnSpec)

end Rows
end Go.Proofs.Ytogkeigmjjbfcaa
