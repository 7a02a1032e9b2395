/- Each constant of the program has the value of the specification: the law returns true (it has no argument and no condition). -/
import Derived.Test.YtkebapmicgkcdaaPFnExactConstantsx1
namespace Go.Proofs.Ytkebapmicgkcdaa.Pure
open Go.RowKit Go.Proofs.Ytkebapmicgkcdaa.PFnExactConstants Go.Proofs.YtkebapmicgkcdaaW.PrintWords Go.Proofs.YtkebapmicgkcdaaW.PrintLast
theorem FnExactConstants : laws_FnExactConstants.Pure := rfl
end Go.Proofs.Ytkebapmicgkcdaa.Pure
