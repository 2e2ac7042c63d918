/- The program's CourseOf and the reference's answer alike for every two poses. -/
import Derived.Test.YtibmehephlngfaaQ0
import Derived.Test.YtibmehephlngfaaQ4
import Derived.Test.YtibmehephlngfaaQ8
import Derived.Test.YtibmehephlngfaaQ19
import Derived.Test.YtibmehephlngfaaPZero
import Derived.Test.YtibmehephlngfaaGCourseI
import Derived.Test.YtibmehephlngfaaGCourseL
namespace Go.Proofs.Ytibmehephlngfaa.Pure
open Go.RowKit Go.Proofs.Ytibmehephlngfaa.Q Go.Proofs.YtibmehephlngfaaW.PrintWords Go.Proofs.YtibmehephlngfaaW.PrintLast
set_option linter.unusedVariables false
set_option linter.unusedSimpArgs false

def psB (a b c d : Int) : Bool := inR (-100000) 100000 a && (inR (-100000) 100000 b && (inR (-400) 400 c && inR (-400) 400 d))
theorem if_self (t : Bool) : (if t = true then some true else some false) = some t := by cases t <;> rfl
theorem sp_eq (a b c d : Int) : spec_l02Pose.f a b c d = some (psB a b c d) := by
  unfold spec_l02Pose.f psB
  simp only [in_eq, Option.bind_some, and_some]
theorem ip_eq (a b c d : Int) : impl_ValidPose.f a b c d = some (psB a b c d) := by
  unfold impl_ValidPose.f psB
  simp only [aw_eq, Option.bind_some, List.all_cons, List.all_nil, Bool.and_true]
  cases inR (-100000) 100000 a <;> cases inR (-100000) 100000 b <;> cases inR (-400) 400 c <;> cases inR (-400) 400 d <;> rfl
theorem in_zero : inR (wrap64 (-0)) 0 0 = true := by rw [w64 (x := -0) (by decide)]; decide
theorem course_both (a b c d e f g h : Int) : ∃ r, spec_CourseOf.f 1 a b c d e f g h = some r ∧ impl_CourseOf.f 1 a b c d e f g h = some r := by
  unfold spec_CourseOf.f impl_CourseOf.f
  simp only [sp_eq, ip_eq, Option.bind_some, spec_CourseOf.j0, impl_CourseOf.j0, spec_l05Inside.f, in_eq, aw_eq, in_zero, List.all_cons, List.all_nil, Bool.and_true]
  cases psB a b c d <;> cases psB e f g h <;> cases inR (-40) 40 (wrap64 (a - e)) <;> cases inR (-40) 40 (wrap64 (b - f)) <;> cases inR (-10) 10 (wrap64 (c - g)) <;> cases inR (-10) 10 (wrap64 (d - h)) <;> exact ⟨_, rfl, rfl⟩

theorem FnExactCourseOf (a b c d e f g h : Int) (_ : (Lit.int .i64 a).wf = true) (_ : (Lit.int .i64 b).wf = true) (_ : (Lit.int .i64 c).wf = true) (_ : (Lit.int .i64 d).wf = true) (_ : (Lit.int .i64 e).wf = true) (_ : (Lit.int .i64 f).wf = true) (_ : (Lit.int .i64 g).wf = true) (_ : (Lit.int .i64 h).wf = true) :
    ∃ k, laws_FnExactCourseOf.f k a b c d e f g h = some true := by
  refine ⟨1, ?_⟩
  obtain ⟨r, e1, e2⟩ := course_both a b c d e f g h
  unfold laws_FnExactCourseOf.f laws_toPose.f
  simp only [Option.bind_some, e1, e2]
  simp [laws_eqCourse.f, laws_FnExactCourseOf.j0]

end Go.Proofs.Ytibmehephlngfaa.Pure
