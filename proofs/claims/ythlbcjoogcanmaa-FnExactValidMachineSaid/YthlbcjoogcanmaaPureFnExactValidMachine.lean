/- The program's ValidMachine and the reference's answer alike for every machine. -/
import Derived.Test.YthlbcjoogcanmaaQ0
import Derived.Test.YthlbcjoogcanmaaQ5
import Derived.Test.YthlbcjoogcanmaaQ8
import Derived.Test.YthlbcjoogcanmaaQ33
import Derived.Test.YthlbcjoogcanmaaPMach
namespace Go.Proofs.Ythlbcjoogcanmaa.Pure
open Go.RowKit Go.Proofs.Ythlbcjoogcanmaa.Q Go.Proofs.YthlbcjoogcanmaaW.PrintWords Go.Proofs.YthlbcjoogcanmaaW.PrintLast
set_option linter.unusedVariables false
set_option linter.unusedSimpArgs false

theorem FnExactValidMachine (a0 a1 a2 a3 a4 a5 a6 a7 a8 : Int) (_ : (Lit.int .i64 a0).wf = true) (_ : (Lit.int .i64 a1).wf = true) (_ : (Lit.int .i64 a2).wf = true) (_ : (Lit.int .i64 a3).wf = true) (_ : (Lit.int .i64 a4).wf = true) (_ : (Lit.int .i64 a5).wf = true) (_ : (Lit.int .i64 a6).wf = true) (_ : (Lit.int .i64 a7).wf = true) (_ : (Lit.int .i64 a8).wf = true) : ∃ k, laws_FnExactValidMachine.f k a0 a1 a2 a3 a4 a5 a6 a7 a8 = some true := by
  refine ⟨6, ?_⟩
  unfold laws_FnExactValidMachine.f laws_toMachine.f laws_toPose.f spec_ValidMachine.f
  simp only [Option.bind_some]
  rw [smach_eq a0 a1 a2 a3 a4 a5 a6 a7 a8 0, imach_eq]
  simp

end Go.Proofs.Ythlbcjoogcanmaa.Pure
