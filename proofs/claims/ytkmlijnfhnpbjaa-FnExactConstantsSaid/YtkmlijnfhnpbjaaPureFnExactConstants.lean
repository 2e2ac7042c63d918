/- Every exported constant of the program has the value that the specification gives. -/
import Derived.Test.YtkmlijnfhnpbjaaPFnExactConstantsx1
namespace Go.Proofs.Ytkmlijnfhnpbjaa.Pure
open Go.RowKit Go.Proofs.Ytkmlijnfhnpbjaa.PFnExactConstants Go.Proofs.YtkmlijnfhnpbjaaW.PrintWords Go.Proofs.YtkmlijnfhnpbjaaW.PrintLast

theorem FnExactConstants : laws_FnExactConstants.Pure := by
  unfold laws_FnExactConstants.Pure laws_FnExactConstants.f
  rfl

end Go.Proofs.Ytkmlijnfhnpbjaa.Pure
