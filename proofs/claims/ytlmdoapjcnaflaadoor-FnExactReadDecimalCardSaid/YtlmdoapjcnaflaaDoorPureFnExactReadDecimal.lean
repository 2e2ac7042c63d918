/- The program's ReadDecimal and the reference's answer alike for every text. -/
import Derived.Test.YtlmdoapjcnaflaaDoorQ0
import Derived.Test.YtlmdoapjcnaflaaDoorQ5
import Derived.Test.YtlmdoapjcnaflaaDoorQ16
import Derived.Test.YtlmdoapjcnaflaaDoorPVal
namespace Go.Proofs.YtlmdoapjcnaflaaDoor.Pure
open Go.RowKit Go.Proofs.YtlmdoapjcnaflaaDoor.Q Go.Proofs.YtlmdoapjcnaflaaDoorW.PrintWords Go.Proofs.YtlmdoapjcnaflaaDoorW.PrintLast
set_option linter.unusedVariables false
set_option linter.unusedSimpArgs false

theorem FnExactReadDecimal (s : ByteArray) (hs : s.size ≤ 140737488351232) : ∃ k, laws_FnExactReadDecimal.f k s = some true := by
  refine ⟨110, ?_⟩
  unfold laws_FnExactReadDecimal.f
  by_cases h : (s.size : Int) > 1048576
  · rw [if_pos h]
  · unfold spec_ReadDecimal.f impl_ReadDecimal.f impl_readIn.f
    rw [if_neg h, val_eq s 110 (by omega), if_pos (by omega)]
    have hbb : ∀ q : Bool, (q != q) = false := fun q => by cases q <;> rfl
    simp [hbb]

end Go.Proofs.YtlmdoapjcnaflaaDoor.Pure
