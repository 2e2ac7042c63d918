/- The program's FnExactValidCourse and the reference's answer alike. -/
import Derived.Test.YtkmlijnfhnpbjaaQ0
import Derived.Test.YtkmlijnfhnpbjaaQ1
import Derived.Test.YtkmlijnfhnpbjaaQ2
import Derived.Test.YtkmlijnfhnpbjaaQ5
namespace Go.Proofs.Ytkmlijnfhnpbjaa.Pure
open Go.RowKit Go.Proofs.Ytkmlijnfhnpbjaa.Q Go.Proofs.YtkmlijnfhnpbjaaW.PrintWords Go.Proofs.YtkmlijnfhnpbjaaW.PrintLast
set_option linter.unusedVariables false
set_option linter.unusedSimpArgs false

theorem in_some (a b c : Int) : spec_l00In.f a b c = some (decide (b ≤ a) && decide (a ≤ c)) := by
  unfold spec_l00In.f; by_cases h : a ≥ b
  · rw [if_pos h, decide_eq_true (show b ≤ a from h), Bool.true_and]
  · rw [if_neg h, decide_eq_false (show ¬ b ≤ a from h), Bool.false_and]
theorem within_some (a b c : Int) : impl_within.f a b c = some (decide (b ≤ a) && decide (a ≤ c)) := by
  unfold impl_within.f; by_cases h : b ≤ a
  · rw [if_pos h, decide_eq_true h, Bool.true_and]
  · rw [if_neg h, decide_eq_false h, Bool.false_and]

theorem FnExactValidCourse (a b c d e : Int) (_ : (Lit.int .i64 a).wf = true) (_ : (Lit.int .i64 b).wf = true) (_ : (Lit.int .i64 c).wf = true) (_ : (Lit.int .i64 d).wf = true) (_ : (Lit.int .i64 e).wf = true) : laws_FnExactValidCourse.f a b c d e = some true := by
  unfold laws_FnExactValidCourse.f laws_toLimits.f laws_toCourse.f spec_ValidCourse.f spec_l05Is.f spec_l05Limits.f spec_l05Inside.f impl_ValidCourse.f impl_ValidLimits.f impl_Limits_isCourse.f
  simp only [Option.bind_some, in_some, within_some]
  generalize (decide (1 ≤ a) && decide (a ≤ 3)) = p1
  generalize (decide (1 ≤ b) && decide (b ≤ 6)) = p2
  generalize (decide (-40 ≤ c) && decide (c ≤ 40)) = p3
  generalize (decide (-10 ≤ d) && decide (d ≤ 10)) = p4
  generalize (decide (wrap64 (-a) ≤ e) && decide (e ≤ a)) = p5
  cases p1 <;> cases p2 <;> cases p3 <;> cases p4 <;> cases p5 <;> rfl
end Go.Proofs.Ytkmlijnfhnpbjaa.Pure
