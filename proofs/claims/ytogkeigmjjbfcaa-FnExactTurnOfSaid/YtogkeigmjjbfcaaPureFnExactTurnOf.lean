/- The program's TurnOf and the reference's answer alike for every ring. -/
import Derived.Test.YtogkeigmjjbfcaaQ0
import Derived.Test.YtogkeigmjjbfcaaQ2
import Derived.Test.YtogkeigmjjbfcaaQ19
import Derived.Test.YtogkeigmjjbfcaaPRing
namespace Go.Proofs.Ytogkeigmjjbfcaa.Pure
open Go.RowKit Go.Proofs.Ytogkeigmjjbfcaa.Q Go.Proofs.YtogkeigmjjbfcaaW.PrintWords Go.Proofs.YtogkeigmjjbfcaaW.PrintLast
set_option linter.unusedVariables false
set_option linter.unusedSimpArgs false

theorem FnExactTurnOf (a b : Int) (_ : (Lit.int .i64 a).wf = true) (_ : (Lit.int .i64 b).wf = true) : laws_FnExactTurnOf.f a b = some true := by
  unfold laws_FnExactTurnOf.f laws_toRing.f spec_TurnOf.f impl_TurnOf.f
  simp only [Option.bind_some, sring_eq, iring_eq]
  cases h : ringB a b with
  | false => rfl
  | true =>
    obtain ⟨r, h1, h2⟩ := turn_both h
    simp only [if_true, h1, h2, Option.bind_some]
    simp

end Go.Proofs.Ytogkeigmjjbfcaa.Pure
