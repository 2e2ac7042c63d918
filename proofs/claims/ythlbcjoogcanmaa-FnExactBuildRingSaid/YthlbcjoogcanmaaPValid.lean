/- A plain lemma by hand: a machine is handed on if it is valid. -/
import Derived.Test.YthlbcjoogcanmaaQ0
import Derived.Test.YthlbcjoogcanmaaQ13
import Derived.Test.YthlbcjoogcanmaaPMach
namespace Go.Proofs.Ythlbcjoogcanmaa.Pure
open Go.RowKit Go.Proofs.Ythlbcjoogcanmaa.Q Go.Proofs.YthlbcjoogcanmaaW.PrintWords Go.Proofs.YthlbcjoogcanmaaW.PrintLast
set_option linter.unusedVariables false
set_option linter.unusedSimpArgs false

section
variable (a0 a1 a2 a3 a4 a5 a6 a7 a8 : Int)
theorem ivalid_eq : impl_Machine_valid.f a0 a1 a2 a3 a4 a5 a6 a7 a8 = some (if machB a0 a1 a2 a3 a4 a5 a6 a7 a8 = true then (a0, a1, a2, a3, a4, a5, a6, a7, a8, true) else (0, 0, 0, 0, 0, 0, 0, 0, 0, false)) := by
  unfold impl_Machine_valid.f
  rw [imach_eq]
  cases machB a0 a1 a2 a3 a4 a5 a6 a7 a8 <;> rfl
end

end Go.Proofs.Ythlbcjoogcanmaa.Pure
