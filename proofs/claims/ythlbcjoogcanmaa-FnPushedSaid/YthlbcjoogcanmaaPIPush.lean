/- Plain lemmas by hand: what a push makes of a machine, in the program. -/
import Derived.Test.YthlbcjoogcanmaaQ0
import Derived.Test.YthlbcjoogcanmaaQ7
import Derived.Test.YthlbcjoogcanmaaQ19
import Derived.Test.YthlbcjoogcanmaaPValid
namespace Go.Proofs.Ythlbcjoogcanmaa.Pure
open Go.RowKit Go.Proofs.Ythlbcjoogcanmaa.Q Go.Proofs.YthlbcjoogcanmaaW.PrintWords Go.Proofs.YthlbcjoogcanmaaW.PrintLast
set_option linter.unusedVariables false
set_option linter.unusedSimpArgs false

/-- A machine one ring further. -/
def pushT (a0 a1 a2 a3 a4 a5 a6 a7 a8 x y : Int) : Int × Int × Int × Int × Int × Int × Int × Int × Int × Bool :=
  if (turnB x y && machB (wrap64 (a0 + a2)) (wrap64 (a1 + a3)) (wrap64 (a2 + x)) (wrap64 (a3 + y)) a4 a5 a6 a7 (wrap64 (a8 + 1500))) = true
  then (wrap64 (a0 + a2), wrap64 (a1 + a3), wrap64 (a2 + x), wrap64 (a3 + y), a4, a5, a6, a7, wrap64 (a8 + 1500), true) else (0, 0, 0, 0, 0, 0, 0, 0, 0, false)
section
variable (a0 a1 a2 a3 a4 a5 a6 a7 a8 x y : Int)
theorem ipush_eq (k : Nat) : impl_PushMachine.f (k + 1) a0 a1 a2 a3 a4 a5 a6 a7 a8 x y = some (if machB a0 a1 a2 a3 a4 a5 a6 a7 a8 = true then pushT a0 a1 a2 a3 a4 a5 a6 a7 a8 x y else (0, 0, 0, 0, 0, 0, 0, 0, 0, false)) := by
  unfold impl_PushMachine.f pushT
  simp only [imach_eq, iturn_eq, Option.bind_some, impl_PushMachine.j0, impl_Pose_next.f, ivalid_eq]
  cases machB a0 a1 a2 a3 a4 a5 a6 a7 a8 with
  | true =>
    cases turnB x y with
    | true => simp
    | false => simp
  | false => simp
end

end Go.Proofs.Ythlbcjoogcanmaa.Pure
