/- Plain lemmas by hand: the test of a pose in the program and in the reference. -/
import Derived.Test.YtlmdoapjcnaflaaDoorQ0
import Derived.Test.YtlmdoapjcnaflaaDoorQ8
import Derived.Test.YtlmdoapjcnaflaaDoorPZero
namespace Go.Proofs.YtlmdoapjcnaflaaDoor.Pure
open Go.RowKit Go.Proofs.YtlmdoapjcnaflaaDoor.Q Go.Proofs.YtlmdoapjcnaflaaDoorW.PrintWords Go.Proofs.YtlmdoapjcnaflaaDoorW.PrintLast
set_option linter.unusedVariables false
set_option linter.unusedSimpArgs false

def poseB (a b c d : Int) : Bool := inR (-100000) 100000 a && (inR (-100000) 100000 b && (inR (-400) 400 c && inR (-400) 400 d))
theorem poseB_iff {a b c d : Int} (h : poseB a b c d = true) : (-100000 ≤ a ∧ a ≤ 100000) ∧ (-100000 ≤ b ∧ b ≤ 100000) ∧ (-400 ≤ c ∧ c ≤ 400) ∧ (-400 ≤ d ∧ d ≤ 400) := by
  simpa [poseB, inR] using h
theorem spose_eq (a b c d : Int) : spec_l02Pose.f a b c d = some (poseB a b c d) := by
  unfold spec_l02Pose.f poseB
  simp only [in_eq, Option.bind_some, and_some]
theorem ipose_eq (a b c d : Int) : impl_ValidPose.f a b c d = some (poseB a b c d) := by
  unfold impl_ValidPose.f poseB
  simp only [aw_eq, Option.bind_some, and_some, List.all_cons, List.all_nil, Bool.and_true, Bool.and_assoc]

end Go.Proofs.YtlmdoapjcnaflaaDoor.Pure
