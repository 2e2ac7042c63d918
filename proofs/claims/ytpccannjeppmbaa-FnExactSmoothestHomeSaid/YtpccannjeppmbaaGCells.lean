/- Three closed facts on this seat's translation, reckoned by the kernel once for all rows. -/
import Derived.Test.YtpccannjeppmbaaRows
import Derived.JoinedOf
import Derived.KernelRfl
namespace Go.Proofs.Ytpccannjeppmbaa
open Go

theorem cells_enter : (Try.prog.mayEnter) = true := by kernel_rfl
theorem cells_lifts : (false == Try.prog.liftsFinal) = true := by kernel_rfl
theorem cells_make : (Try.prog.make == some Make.cut) = true := by kernel_rfl
theorem band {a b : Bool} (h : a = true) (k : b = true) : (a && b) = true := by rw [h, k]; rfl

end Go.Proofs.Ytpccannjeppmbaa
