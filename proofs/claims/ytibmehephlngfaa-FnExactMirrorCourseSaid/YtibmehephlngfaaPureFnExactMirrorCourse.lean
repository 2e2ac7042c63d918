/- The program's MirrorCourse and the reference's answer alike for every course. -/
import Derived.Test.YtibmehephlngfaaQ0
import Derived.Test.YtibmehephlngfaaQ3
import Derived.Test.YtibmehephlngfaaQ8
import Derived.Test.YtibmehephlngfaaQ12
import Derived.Test.YtibmehephlngfaaQ18
import Derived.Test.YtibmehephlngfaaPZero
namespace Go.Proofs.Ytibmehephlngfaa.Pure
open Go.RowKit Go.Proofs.Ytibmehephlngfaa.Q Go.Proofs.YtibmehephlngfaaW.PrintWords Go.Proofs.YtibmehephlngfaaW.PrintLast
set_option linter.unusedVariables false
set_option linter.unusedSimpArgs false

theorem FnExactMirrorCourse (a b c : Int) (_ : (Lit.int .i64 a).wf = true) (_ : (Lit.int .i64 b).wf = true) (_ : (Lit.int .i64 c).wf = true) : laws_FnExactMirrorCourse.f a b c = some true := by
  unfold laws_FnExactMirrorCourse.f laws_toCourse.f spec_MirrorCourse.f impl_MirrorCourse.f spec_l05Small.f impl_Course_isTold.f
  simp only [in_eq, aw_eq, Option.bind_some, and_some, List.all_cons, List.all_nil, Bool.and_true]
  cases inR (-1000) 1000 a <;> cases inR (-1000) 1000 b <;> cases inR (-1000) 1000 c <;> simp [laws_eqCourse.f]

end Go.Proofs.Ytibmehephlngfaa.Pure
