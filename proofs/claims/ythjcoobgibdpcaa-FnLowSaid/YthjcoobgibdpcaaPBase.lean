/- Plain lemmas by hand: what the printed functions on bounds, poses and machines compute. -/
import Derived.Test.YthjcoobgibdpcaaQ0
import Derived.Test.YthjcoobgibdpcaaQ1
import Derived.Test.YthjcoobgibdpcaaQ2
import Derived.Test.YthjcoobgibdpcaaQ3
namespace Go.Proofs.Ythjcoobgibdpcaa.Pure
open Go.RowKit Go.Proofs.Ythjcoobgibdpcaa.Q Go.Proofs.YthjcoobgibdpcaaW.PrintWords Go.Proofs.YthjcoobgibdpcaaW.PrintLast
set_option linter.unusedVariables false
set_option linter.unusedSimpArgs false

theorem w64 {x : Int} (h : -9223372036854775808 ≤ x ∧ x ≤ 9223372036854775807) : wrap64 x = x := by unfold wrap64; omega
theorem and_some (t y : Bool) : (if t = true then some y else some false) = some (t && y) := by cases t <;> rfl
theorem in_eq (a lo hi : Int) : spec_l00In.f a lo hi = some (inR lo hi a) := by
  unfold spec_l00In.f inR
  by_cases h : a ≥ lo
  · rw [if_pos h, decide_eq_true (show lo ≤ a from h), Bool.true_and]
  · rw [if_neg h, decide_eq_false (show ¬ lo ≤ a from h), Bool.false_and]
theorem within_eq (a lo hi : Int) : impl_within.f a lo hi = some (inR lo hi a) := by
  unfold impl_within.f inR
  by_cases h : lo ≤ a
  · rw [if_pos h, decide_eq_true h, Bool.true_and]
  · rw [if_neg h, decide_eq_false h, Bool.false_and]
theorem aw_eq (l : List Int) (lo hi : Int) : impl_areWithin.f l lo hi = some (l.all (inR lo hi)) := rfl

def poseB (a b c d : Int) : Bool := inR (-100000) 100000 a && (inR (-100000) 100000 b && (inR (-400) 400 c && inR (-400) 400 d))
theorem poseB_iff {a b c d : Int} (h : poseB a b c d = true) : (-100000 ≤ a ∧ a ≤ 100000) ∧ (-100000 ≤ b ∧ b ≤ 100000) ∧ (-400 ≤ c ∧ c ≤ 400) ∧ (-400 ≤ d ∧ d ≤ 400) := by
  simpa [poseB, inR] using h
theorem inR_iff {lo hi n : Int} (h : inR lo hi n = true) : lo ≤ n ∧ n ≤ hi := by simpa [inR] using h
theorem spose_eq (a b c d : Int) : spec_l02Pose.f a b c d = some (poseB a b c d) := by
  unfold spec_l02Pose.f poseB
  simp only [in_eq, Option.bind_some, and_some]
theorem ipose_eq (a b c d : Int) : impl_ValidPose.f a b c d = some (poseB a b c d) := by
  unfold impl_ValidPose.f poseB
  simp only [aw_eq, Option.bind_some, and_some, List.all_cons, List.all_nil, Bool.and_true, Bool.and_assoc]
def turnB (a b : Int) : Bool := inR (-12) 12 a && inR (-12) 12 b
theorem sturn_eq (a b : Int) : spec_l02Turn.f a b = some (turnB a b) := by
  unfold spec_l02Turn.f turnB
  simp only [in_eq, Option.bind_some, and_some]
theorem iturn_eq (a b : Int) : impl_isTurn.f a b = some (turnB a b) := by
  unfold impl_isTurn.f turnB
  simp only [aw_eq, Option.bind_some, List.all_cons, List.all_nil, Bool.and_true]

end Go.Proofs.Ythjcoobgibdpcaa.Pure
