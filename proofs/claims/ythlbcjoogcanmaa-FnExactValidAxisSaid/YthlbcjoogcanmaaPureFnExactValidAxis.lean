/- The program's ValidAxis and the reference's answer alike for every axis. -/
import Derived.Test.YthlbcjoogcanmaaQ0
import Derived.Test.YthlbcjoogcanmaaQ30
import Derived.Test.YthlbcjoogcanmaaPAxis
namespace Go.Proofs.Ythlbcjoogcanmaa.Pure
open Go.RowKit Go.Proofs.Ythlbcjoogcanmaa.Q Go.Proofs.YthlbcjoogcanmaaW.PrintWords Go.Proofs.YthlbcjoogcanmaaW.PrintLast
set_option linter.unusedVariables false
set_option linter.unusedSimpArgs false

theorem FnExactValidAxis (a b c d : Int) (l : List S118) (_ : (Lit.int .i64 a).wf = true) (_ : (Lit.int .i64 b).wf = true) (_ : (Lit.int .i64 c).wf = true) (_ : (Lit.int .i64 d).wf = true)
    (hm : l.length ≤ 9223372036854775807) (_ : ∀ z ∈ l, (Lit.int .i64 z.f0).wf = true ∧ (Lit.int .i64 z.f1).wf = true ∧ (Lit.int .i64 z.f2).wf = true) : ∃ k, laws_FnExactValidAxis.f k a b c d l = some true := by
  refine ⟨l.length + 600, ?_⟩
  unfold laws_FnExactValidAxis.f
  rw [szAxis_eq a b c d l hm]
  simp only [Option.bind_some]
  by_cases h : (l.length : Int) > 1048576
  · rw [if_pos h, if_pos (by omega)]
  · rw [if_neg h, if_neg (by omega), toAxis_eq _ a b c d l (by omega) (by omega)]
    simp only [Option.bind_some]
    unfold spec_ValidAxis.f impl_ValidAxis.f
    rw [saxis_eq _ a b c d (l.map curveOf) (by omega) (by simp; omega), iaxis_eq _ a b c d (l.map curveOf) (by omega) (by simp; omega)]
    simp only [Option.bind_some]
    rw [eqAxis_self _ a b c d (l.map curveOf) (by simp; omega) (by simp)]
    cases axisP ⟨a, b, c, d⟩ (l.map curveOf) <;> simp

end Go.Proofs.Ythlbcjoogcanmaa.Pure
