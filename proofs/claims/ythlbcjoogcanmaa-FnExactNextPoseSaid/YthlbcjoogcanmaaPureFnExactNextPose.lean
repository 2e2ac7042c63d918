/- The program's NextPose and the reference's answer alike for every pose and every turn. -/
import Derived.Test.YthlbcjoogcanmaaPBase
namespace Go.Proofs.Ythlbcjoogcanmaa.Pure
open Go.RowKit Go.Proofs.Ythlbcjoogcanmaa.Q Go.Proofs.YthlbcjoogcanmaaW.PrintWords Go.Proofs.YthlbcjoogcanmaaW.PrintLast
set_option linter.unusedVariables false
set_option linter.unusedSimpArgs false

theorem FnExactNextPose (a b c d x y : Int) (_ : (Lit.int .i64 a).wf = true) (_ : (Lit.int .i64 b).wf = true) (_ : (Lit.int .i64 c).wf = true) (_ : (Lit.int .i64 d).wf = true) (_ : (Lit.int .i64 x).wf = true) (_ : (Lit.int .i64 y).wf = true) :
    ∃ k, laws_FnExactNextPose.f k a b c d x y = some true := by
  refine ⟨1, ?_⟩
  unfold laws_FnExactNextPose.f laws_toPose.f spec_NextPose.f impl_NextPose.f
  simp only [spose_eq, ipose_eq, sturn_eq, iturn_eq, Option.bind_some, spec_NextPose.j0, spec_l02Next.f, impl_Pose_next.f]
  cases poseB a b c d <;> cases turnB x y <;> simp [eqPose_self]
  cases poseB (wrap64 (a + c)) (wrap64 (b + d)) (wrap64 (c + x)) (wrap64 (d + y)) <;> simp [eqPose_self]

end Go.Proofs.Ythlbcjoogcanmaa.Pure
