/- The law FnExactConstants, as plain Lean: the printed function answers true. Conditions: none. -/
import Derived.Test.YtbkcchpcadlkdaaPFnExactConstantsx1
namespace Go.Proofs.Ytbkcchpcadlkdaa.Pure
open Go.RowKit Go.Proofs.Ytbkcchpcadlkdaa.PFnExactConstants Go.Proofs.YtbkcchpcadlkdaaW.PrintWords Go.Proofs.YtbkcchpcadlkdaaW.PrintLast

theorem FnExactConstants : laws_FnExactConstants.Pure := by
  rfl

end Go.Proofs.Ytbkcchpcadlkdaa.Pure
