/- The program's NumOk returns what the reference's returns, for every integer; no condition. -/
import Derived.Test.YtjplcmffdhngmaaPFnExactNumOkx1
namespace Go.Proofs.Ytjplcmffdhngmaa.Pure
open Go.RowKit Go.Proofs.Ytjplcmffdhngmaa.PFnExactNumOk Go.Proofs.YtjplcmffdhngmaaW.PrintWords Go.Proofs.YtjplcmffdhngmaaW.PrintLast

theorem FnExactNumOk : laws_FnExactNumOk.Pure := by
  intro a _
  unfold laws_FnExactNumOk.f spec_NumOk.f impl_NumOk.f
  split <;> simp

end Go.Proofs.Ytjplcmffdhngmaa.Pure
