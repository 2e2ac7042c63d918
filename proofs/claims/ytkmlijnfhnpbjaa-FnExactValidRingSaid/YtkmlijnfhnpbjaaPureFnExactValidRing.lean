/- The program's FnExactValidRing and the reference's answer alike. -/
import Derived.Test.YtkmlijnfhnpbjaaQ0
import Derived.Test.YtkmlijnfhnpbjaaQ1
import Derived.Test.YtkmlijnfhnpbjaaQ4
namespace Go.Proofs.Ytkmlijnfhnpbjaa.Pure
open Go.RowKit Go.Proofs.Ytkmlijnfhnpbjaa.Q Go.Proofs.YtkmlijnfhnpbjaaW.PrintWords Go.Proofs.YtkmlijnfhnpbjaaW.PrintLast
set_option linter.unusedVariables false
set_option linter.unusedSimpArgs false

theorem in_some (a b c : Int) : spec_l00In.f a b c = some (decide (b ≤ a) && decide (a ≤ c)) := by
  unfold spec_l00In.f; by_cases h : a ≥ b
  · rw [if_pos h, decide_eq_true (show b ≤ a from h), Bool.true_and]
  · rw [if_neg h, decide_eq_false (show ¬ b ≤ a from h), Bool.false_and]
theorem within_some (a b c : Int) : impl_within.f a b c = some (decide (b ≤ a) && decide (a ≤ c)) := by
  unfold impl_within.f; by_cases h : b ≤ a
  · rw [if_pos h, decide_eq_true h, Bool.true_and]
  · rw [if_neg h, decide_eq_false h, Bool.false_and]

theorem FnExactValidRing (a b : Int) (_ : (Lit.int .i64 a).wf = true) (_ : (Lit.int .i64 b).wf = true) : laws_FnExactValidRing.f a b = some true := by
  unfold laws_FnExactValidRing.f laws_toRing.f spec_ValidRing.f spec_l03Is.f impl_ValidRing.f
  simp only [Option.bind_some, in_some, within_some]
  repeat (split <;> simp_all)
end Go.Proofs.Ytkmlijnfhnpbjaa.Pure
