/- Plain lemmas by hand: what a push makes of a machine, in the program and in the reference. -/
import Derived.Test.YthlbcjoogcanmaaQ0
import Derived.Test.YthlbcjoogcanmaaQ7
import Derived.Test.YthlbcjoogcanmaaQ9
import Derived.Test.YthlbcjoogcanmaaQ13
import Derived.Test.YthlbcjoogcanmaaQ19
import Derived.Test.YthlbcjoogcanmaaQ24
import Derived.Test.YthlbcjoogcanmaaQ39
import Derived.Test.YthlbcjoogcanmaaPMach
namespace Go.Proofs.Ythlbcjoogcanmaa.Pure
open Go.RowKit Go.Proofs.Ythlbcjoogcanmaa.Q Go.Proofs.YthlbcjoogcanmaaW.PrintWords Go.Proofs.YthlbcjoogcanmaaW.PrintLast
set_option linter.unusedVariables false
set_option linter.unusedSimpArgs false

/-- A machine one ring further. -/
def pushT (a0 a1 a2 a3 a4 a5 a6 a7 a8 x y : Int) : Int × Int × Int × Int × Int × Int × Int × Int × Int × Bool :=
  if (turnB x y && machB (wrap64 (a0 + a2)) (wrap64 (a1 + a3)) (wrap64 (a2 + x)) (wrap64 (a3 + y)) a4 a5 a6 a7 (wrap64 (a8 + 1500))) = true
  then (wrap64 (a0 + a2), wrap64 (a1 + a3), wrap64 (a2 + x), wrap64 (a3 + y), a4, a5, a6, a7, wrap64 (a8 + 1500), true) else (0, 0, 0, 0, 0, 0, 0, 0, 0, false)
section
variable (a0 a1 a2 a3 a4 a5 a6 a7 a8 x y : Int)
theorem spush_eq (k : Nat) : spec_l04Push.f (k + 6) a0 a1 a2 a3 a4 a5 a6 a7 a8 x y = some (pushT a0 a1 a2 a3 a4 a5 a6 a7 a8 x y) := by
  unfold spec_l04Push.f pushT spec_l02Next.f
  simp only [sturn_eq, Option.bind_some, smach_eq]
  cases turnB x y with
  | true =>
    simp only [if_true, Bool.true_and]
    by_cases h : machB (wrap64 (a0 + a2)) (wrap64 (a1 + a3)) (wrap64 (a2 + x)) (wrap64 (a3 + y)) a4 a5 a6 a7 (wrap64 (a8 + 1500)) = true
    · rw [if_pos h, if_pos h]
    · rw [if_neg h, if_neg h]
  | false => simp
theorem ivalid_eq : impl_Machine_valid.f a0 a1 a2 a3 a4 a5 a6 a7 a8 = some (if machB a0 a1 a2 a3 a4 a5 a6 a7 a8 = true then (a0, a1, a2, a3, a4, a5, a6, a7, a8, true) else (0, 0, 0, 0, 0, 0, 0, 0, 0, false)) := by
  unfold impl_Machine_valid.f
  rw [imach_eq]
  cases machB a0 a1 a2 a3 a4 a5 a6 a7 a8 <;> rfl
theorem ipush_eq (k : Nat) : impl_PushMachine.f (k + 1) a0 a1 a2 a3 a4 a5 a6 a7 a8 x y = some (if machB a0 a1 a2 a3 a4 a5 a6 a7 a8 = true then pushT a0 a1 a2 a3 a4 a5 a6 a7 a8 x y else (0, 0, 0, 0, 0, 0, 0, 0, 0, false)) := by
  unfold impl_PushMachine.f pushT
  simp only [imach_eq, iturn_eq, Option.bind_some, impl_PushMachine.j0, impl_Pose_next.f, ivalid_eq]
  cases machB a0 a1 a2 a3 a4 a5 a6 a7 a8 with
  | true =>
    cases turnB x y with
    | true => simp
    | false => simp
  | false => simp
theorem spushM_eq (k : Nat) : spec_PushMachine.f (k + 6) a0 a1 a2 a3 a4 a5 a6 a7 a8 x y = some (if machB a0 a1 a2 a3 a4 a5 a6 a7 a8 = true then pushT a0 a1 a2 a3 a4 a5 a6 a7 a8 x y else (0, 0, 0, 0, 0, 0, 0, 0, 0, false)) := by
  unfold spec_PushMachine.f
  rw [smach_eq, spush_eq]
  cases machB a0 a1 a2 a3 a4 a5 a6 a7 a8 <;> rfl
end

end Go.Proofs.Ythlbcjoogcanmaa.Pure
