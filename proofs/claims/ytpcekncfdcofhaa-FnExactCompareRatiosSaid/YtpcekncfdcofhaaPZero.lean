/- Plain lemmas by hand: what the printed functions on bounds compute. -/
import Derived.Test.YtpcekncfdcofhaaQ0
import Derived.Test.YtpcekncfdcofhaaQ1
import Derived.Test.YtpcekncfdcofhaaQ2
import Derived.Test.YtpcekncfdcofhaaGWithin
namespace Go.Proofs.Ytpcekncfdcofhaa.Pure
open Go.RowKit Go.Proofs.Ytpcekncfdcofhaa.Q Go.Proofs.YtpcekncfdcofhaaW.PrintWords Go.Proofs.YtpcekncfdcofhaaW.PrintLast
set_option linter.unusedVariables false
set_option linter.unusedSimpArgs false

theorem w64 {x : Int} (h : -9223372036854775808 ≤ x ∧ x ≤ 9223372036854775807) : wrap64 x = x := by unfold wrap64; omega
theorem and_some (t y : Bool) : (if t = true then some y else some false) = some (t && y) := by cases t <;> rfl
theorem in_eq (a lo hi : Int) : spec_l00In.f a lo hi = some (inR lo hi a) := by
  unfold spec_l00In.f inR
  by_cases h : a ≥ lo
  · rw [if_pos h, decide_eq_true (show lo ≤ a from h), Bool.true_and]
  · rw [if_neg h, decide_eq_false (show ¬ lo ≤ a from h), Bool.false_and]
theorem within_eq (a lo hi : Int) : impl_within.f a lo hi = some (inR lo hi a) := by
  unfold impl_within.f inR
  by_cases h : lo ≤ a
  · rw [if_pos h, decide_eq_true h, Bool.true_and]
  · rw [if_neg h, decide_eq_false h, Bool.false_and]
theorem inR_iff {lo hi n : Int} (h : inR lo hi n = true) : lo ≤ n ∧ n ≤ hi := by simpa [inR] using h
theorem aw_eq (l : List Int) (lo hi : Int) : impl_areWithin.f l lo hi = some (l.all (inR lo hi)) := rfl


end Go.Proofs.Ytpcekncfdcofhaa.Pure
