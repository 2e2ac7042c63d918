/- Three closed facts on this seat's translation, reckoned by the kernel once for all rows. -/
import Derived.Test.YtlmdoapjcnaflaaDoorRows
import Derived.JoinedOf
import Derived.KernelRfl
namespace Go.Proofs.YtlmdoapjcnaflaaDoor
open Go

theorem cells_enter : (Tryd.prog.mayEnter) = true := by kernel_rfl
theorem cells_lifts : (false == Tryd.prog.liftsFinal) = true := by kernel_rfl
theorem cells_make : (Tryd.prog.make == some Make.cut) = true := by kernel_rfl
theorem band {a b : Bool} (h : a = true) (k : b = true) : (a && b) = true := by rw [h, k]; rfl

end Go.Proofs.YtlmdoapjcnaflaaDoor
