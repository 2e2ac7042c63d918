/- A plain lemma by hand: a pose equals itself. -/
import Derived.Test.YthlbcjoogcanmaaQ0
import Derived.Test.YthlbcjoogcanmaaQ11
import Derived.Test.YthlbcjoogcanmaaPBase
namespace Go.Proofs.Ythlbcjoogcanmaa.Pure
open Go.RowKit Go.Proofs.Ythlbcjoogcanmaa.Q Go.Proofs.YthlbcjoogcanmaaW.PrintWords Go.Proofs.YthlbcjoogcanmaaW.PrintLast
set_option linter.unusedVariables false
set_option linter.unusedSimpArgs false

theorem eqPose_self (a b c d : Int) : laws_eqPose.f a b c d a b c d = some true := by simp [laws_eqPose.f]

end Go.Proofs.Ythlbcjoogcanmaa.Pure
