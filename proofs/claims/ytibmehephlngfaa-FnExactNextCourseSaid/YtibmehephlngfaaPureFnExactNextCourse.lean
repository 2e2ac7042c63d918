/- The program's NextCourse and the reference's answer alike. -/
import Derived.Test.YtibmehephlngfaaQ0
import Derived.Test.YtibmehephlngfaaQ3
import Derived.Test.YtibmehephlngfaaQ5
import Derived.Test.YtibmehephlngfaaQ8
import Derived.Test.YtibmehephlngfaaQ13
import Derived.Test.YtibmehephlngfaaQ20
import Derived.Test.YtibmehephlngfaaPCourse
import Derived.Test.YtibmehephlngfaaGNextCourse
namespace Go.Proofs.Ytibmehephlngfaa.Pure
open Go.RowKit Go.Proofs.Ytibmehephlngfaa.Q Go.Proofs.YtibmehephlngfaaW.PrintWords Go.Proofs.YtibmehephlngfaaW.PrintLast
set_option linter.unusedVariables false
set_option linter.unusedSimpArgs false

theorem FnExactNextCourse (a b o h t u : Int) (_ : (Lit.int .i64 a).wf = true) (_ : (Lit.int .i64 b).wf = true) (_ : (Lit.int .i64 o).wf = true) (_ : (Lit.int .i64 h).wf = true) (_ : (Lit.int .i64 t).wf = true) (_ : (Lit.int .i64 u).wf = true) :
    ∃ k, laws_FnExactNextCourse.f k a b o h t u = some true := by
  refine ⟨1, ?_⟩
  unfold laws_FnExactNextCourse.f laws_toLimits.f laws_toCourse.f spec_NextCourse.f impl_NextCourse.f
  simp only [sis_eq, ivalc_eq, Option.bind_some]
  cases hv : valB a b o h t with
  | false => simp [laws_eqCourse.f]
  | true =>
    simp only [snext_eq 0, inext_eq 0 hv, Option.bind_some, if_true]
    simp [laws_eqCourse.f]

end Go.Proofs.Ytibmehephlngfaa.Pure
