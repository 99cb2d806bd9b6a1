/- Every exported constant of the program has the value that the statement names; no condition. -/
import Derived.Test.YtjplcmffdhngmaaPFnExactConstantsx1
namespace Go.Proofs.Ytjplcmffdhngmaa.Pure
open Go.RowKit Go.Proofs.Ytjplcmffdhngmaa.PFnExactConstants Go.Proofs.YtjplcmffdhngmaaW.PrintWords Go.Proofs.YtjplcmffdhngmaaW.PrintLast

theorem FnExactConstants : laws_FnExactConstants.Pure := rfl

end Go.Proofs.Ytjplcmffdhngmaa.Pure
