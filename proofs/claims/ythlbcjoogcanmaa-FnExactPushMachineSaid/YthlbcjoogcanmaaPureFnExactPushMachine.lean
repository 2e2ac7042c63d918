/- The program's PushMachine and the reference's answer alike for every machine and every turn. -/
import Derived.Test.YthlbcjoogcanmaaQ0
import Derived.Test.YthlbcjoogcanmaaQ5
import Derived.Test.YthlbcjoogcanmaaQ8
import Derived.Test.YthlbcjoogcanmaaQ15
import Derived.Test.YthlbcjoogcanmaaQ39
import Derived.Test.YthlbcjoogcanmaaPPush
namespace Go.Proofs.Ythlbcjoogcanmaa.Pure
open Go.RowKit Go.Proofs.Ythlbcjoogcanmaa.Q Go.Proofs.YthlbcjoogcanmaaW.PrintWords Go.Proofs.YthlbcjoogcanmaaW.PrintLast
set_option linter.unusedVariables false
set_option linter.unusedSimpArgs false

theorem FnExactPushMachine (a0 a1 a2 a3 a4 a5 a6 a7 a8 x y : Int) (_ : (Lit.int .i64 a0).wf = true) (_ : (Lit.int .i64 a1).wf = true) (_ : (Lit.int .i64 a2).wf = true) (_ : (Lit.int .i64 a3).wf = true) (_ : (Lit.int .i64 a4).wf = true) (_ : (Lit.int .i64 a5).wf = true) (_ : (Lit.int .i64 a6).wf = true) (_ : (Lit.int .i64 a7).wf = true) (_ : (Lit.int .i64 a8).wf = true) (_ : (Lit.int .i64 x).wf = true) (_ : (Lit.int .i64 y).wf = true) : ∃ k, laws_FnExactPushMachine.f k a0 a1 a2 a3 a4 a5 a6 a7 a8 x y = some true := by
  refine ⟨6, ?_⟩
  unfold laws_FnExactPushMachine.f laws_toMachine.f laws_toPose.f
  simp only [Option.bind_some]
  rw [spushM_eq a0 a1 a2 a3 a4 a5 a6 a7 a8 x y 0, ipush_eq a0 a1 a2 a3 a4 a5 a6 a7 a8 x y 5]
  unfold laws_eqMachine.f
  simp [eqPose_self]

end Go.Proofs.Ythlbcjoogcanmaa.Pure
