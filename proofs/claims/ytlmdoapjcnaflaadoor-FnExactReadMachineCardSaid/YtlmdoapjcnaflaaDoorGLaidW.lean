/- Lemmas by hand: what the row's premise on the listed variables says of the library's table of the powers of ten. -/
import Derived.Test.YtlmdoapjcnaflaaDoorRows
import Derived.Test.YtlmdoapjcnaflaaDoorGTextT
import Derived.Lib.LaidTab
import Derived.MakeChecks
import Derived.Stop.LaidErr
namespace Go.Proofs.YtlmdoapjcnaflaaDoor.Q
open Go.RowKit Go.Proofs.YtlmdoapjcnaflaaDoorW.PrintWords Go.Proofs.YtlmdoapjcnaflaaDoorW.PrintLast Go.Proofs.YtlmdoapjcnaflaaDoorW.PrintMore
set_option linter.unusedVariables false

theorem gPow : Tryd.prog.globalNamed "internal/strconv.uint64pow10" = some 0 := by kernel_rfl
theorem gPowT : (Tryd.prog.globals[0]?).map (·.type) = some 129 := by kernel_rfl
theorem libT_head {W : World} {r : List (String × DataW Unit)} (h : laidMet Tryd.prog (("internal/strconv.uint64pow10", Rows.laid_internal_strconv_uint64pow10) :: r) W) : LibT W :=
  Lib.tabIs_of_head (k := .u64) (zs := Lib.pow10Tab) gPow gPowT Tryd.underlying129 Tryd.underlying114 (by kernel_rfl) (by kernel_rfl) (show laidMet Tryd.prog (("internal/strconv.uint64pow10", Lib.tabData .u64 Lib.pow10Tab) :: r) W from h)
theorem libT_W {W : World} (h : laidMetH Tryd.prog Rows.fnExactDecimalRow.laid W) : LibT W := by
  rw [MakeChecks.laidMetH_plain _ _ _ (by kernel_rfl)] at h
  exact libT_head (laidMet.tail (laidMet.tail h))

end Go.Proofs.YtlmdoapjcnaflaaDoor.Q
