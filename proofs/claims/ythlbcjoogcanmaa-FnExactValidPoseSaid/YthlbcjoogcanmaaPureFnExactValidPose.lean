/- The program's ValidPose and the reference's answer alike for every pose. -/
import Derived.Test.YthlbcjoogcanmaaPBase
namespace Go.Proofs.Ythlbcjoogcanmaa.Pure
open Go.RowKit Go.Proofs.Ythlbcjoogcanmaa.Q Go.Proofs.YthlbcjoogcanmaaW.PrintWords Go.Proofs.YthlbcjoogcanmaaW.PrintLast
set_option linter.unusedVariables false

theorem FnExactValidPose (a b c d : Int) (_ : (Lit.int .i64 a).wf = true) (_ : (Lit.int .i64 b).wf = true) (_ : (Lit.int .i64 c).wf = true) (_ : (Lit.int .i64 d).wf = true) : laws_FnExactValidPose.f a b c d = some true := by
  unfold laws_FnExactValidPose.f laws_toPose.f
  simp [svalidpose_eq, ipose_eq]

end Go.Proofs.Ythlbcjoogcanmaa.Pure
