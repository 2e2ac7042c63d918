/- The program's Decimal and the reference's answer alike for every number. -/
import Derived.Test.YtlmdoapjcnaflaaDoorQ0
import Derived.Test.YtlmdoapjcnaflaaDoorQ12
import Derived.Test.YtlmdoapjcnaflaaDoorPDec
namespace Go.Proofs.YtlmdoapjcnaflaaDoor.Pure
open Go.RowKit Go.Proofs.YtlmdoapjcnaflaaDoor.Q Go.Proofs.YtlmdoapjcnaflaaDoorW.PrintWords Go.Proofs.YtlmdoapjcnaflaaDoorW.PrintLast
set_option linter.unusedVariables false
set_option linter.unusedSimpArgs false

theorem FnExactDecimal (a : Int) (h : (Lit.int .i64 a).wf = true) : ∃ k, laws_FnExactDecimal.f k a = some true := by
  obtain ⟨h0, h1⟩ := wf64 h
  refine ⟨30, ?_⟩
  unfold laws_FnExactDecimal.f spec_Decimal.f
  rw [dec_eq a h0 h1 30 (by omega), idec_eq a h0 h1]
  simp

end Go.Proofs.YtlmdoapjcnaflaaDoor.Pure
