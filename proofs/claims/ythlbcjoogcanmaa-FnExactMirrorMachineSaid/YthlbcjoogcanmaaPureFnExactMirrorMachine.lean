/- The program's MirrorMachine and the reference's answer alike for every machine. -/
import Derived.Test.YthlbcjoogcanmaaQ0
import Derived.Test.YthlbcjoogcanmaaQ5
import Derived.Test.YthlbcjoogcanmaaQ8
import Derived.Test.YthlbcjoogcanmaaQ15
import Derived.Test.YthlbcjoogcanmaaQ23
import Derived.Test.YthlbcjoogcanmaaQ37
import Derived.Test.YthlbcjoogcanmaaPMach
namespace Go.Proofs.Ythlbcjoogcanmaa.Pure
open Go.RowKit Go.Proofs.Ythlbcjoogcanmaa.Q Go.Proofs.YthlbcjoogcanmaaW.PrintWords Go.Proofs.YthlbcjoogcanmaaW.PrintLast
set_option linter.unusedVariables false
set_option linter.unusedSimpArgs false

theorem FnExactMirrorMachine (a0 a1 a2 a3 a4 a5 a6 a7 a8 : Int) (_ : (Lit.int .i64 a0).wf = true) (_ : (Lit.int .i64 a1).wf = true) (_ : (Lit.int .i64 a2).wf = true) (_ : (Lit.int .i64 a3).wf = true) (_ : (Lit.int .i64 a4).wf = true) (_ : (Lit.int .i64 a5).wf = true) (_ : (Lit.int .i64 a6).wf = true) (_ : (Lit.int .i64 a7).wf = true) (_ : (Lit.int .i64 a8).wf = true) : ∃ k, laws_FnExactMirrorMachine.f k a0 a1 a2 a3 a4 a5 a6 a7 a8 = some true := by
  refine ⟨6, ?_⟩
  unfold laws_FnExactMirrorMachine.f laws_toMachine.f laws_toPose.f spec_MirrorMachine.f impl_MirrorMachine.f
  simp only [Option.bind_some]
  rw [smach_eq a0 a1 a2 a3 a4 a5 a6 a7 a8 0, imach_eq]
  unfold spec_l04Mirror.f impl_Pose_mirrored.f laws_eqMachine.f
  cases machB a0 a1 a2 a3 a4 a5 a6 a7 a8 <;> simp [eqPose_self]

end Go.Proofs.Ythlbcjoogcanmaa.Pure
