/- The program's ValidTube and the reference's answer alike for every tube. -/
import Derived.Test.YtogkeigmjjbfcaaQ0
import Derived.Test.YtogkeigmjjbfcaaQ23
import Derived.Test.YtogkeigmjjbfcaaPTube
namespace Go.Proofs.Ytogkeigmjjbfcaa.Pure
open Go.RowKit Go.Proofs.Ytogkeigmjjbfcaa.Q Go.Proofs.YtogkeigmjjbfcaaW.PrintWords Go.Proofs.YtogkeigmjjbfcaaW.PrintLast
set_option linter.unusedVariables false
set_option linter.unusedSimpArgs false

theorem FnExactValidTube (l : List S23) (hm : l.length ≤ 9223372036854775807) (_ : ∀ z ∈ l, (Lit.int .i64 z.f0).wf = true ∧ (Lit.int .i64 z.f1).wf = true) : ∃ k, laws_FnExactValidTube.f k l = some true := by
  refine ⟨l.length + 120, ?_⟩
  unfold laws_FnExactValidTube.f
  rw [szR_eq l hm]
  simp only [Option.bind_some]
  by_cases h : (l.length : Int) > 1048576
  · rw [if_pos h, if_pos (by omega)]
  · rw [if_neg h, if_neg (by omega), toRings_eq _ l (by omega) (by omega)]
    simp only [Option.bind_some, spec_ValidTube.f]
    rw [stube_eq _ (l.map ringOf) (by simp <;> omega) (by simp <;> omega), itube_eq _ (l.map ringOf) (by simp <;> omega) (by simp <;> omega)]
    have hbb : (tubeV (l.map ringOf) != tubeV (l.map ringOf)) = false := by cases tubeV (l.map ringOf) <;> rfl
    simp only [Option.bind_some, hbb]
    rw [if_neg (by simp), eqRs_self _ (l.map ringOf) (by simp <;> omega) (by simp <;> omega)]
    simp

end Go.Proofs.Ytogkeigmjjbfcaa.Pure
