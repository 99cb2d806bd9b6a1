/- Clamping and its bounds, of the program and of the reference, as plain functions; no condition. -/
import Derived.Test.YtjplcmffdhngmaaDraws
import Derived.Test.YtjplcmffdhngmaaFSpecNumOk
import Derived.Test.YtjplcmffdhngmaaFImplNumOk
import Derived.Test.YtjplcmffdhngmaaFSpecNumCut
import Derived.Test.YtjplcmffdhngmaaFImplNumCut
namespace Go.Proofs.Ytjplcmffdhngmaa.P
open Go.RowKit Go.Proofs.YtjplcmffdhngmaaW.PrintWords Go.Proofs.YtjplcmffdhngmaaW.PrintMore
def cutN (n : Int) : Int := max (-999) (min n 999)
def okN (n : Int) : Bool := decide (-999 ≤ n ∧ n ≤ 999)
theorem sCut_eq (n : Int) : spec_NumCut.f n = some (cutN n) := by
  unfold spec_NumCut.f cutN
  by_cases h1 : n > 999
  · rw [if_pos h1]; congr 1; omega
  · rw [if_neg h1]
    by_cases h2 : n < -999
    · rw [if_pos h2]; congr 1; omega
    · rw [if_neg h2]; congr 1; omega
theorem iCut_eq (n : Int) : impl_NumCut.f n = some (cutN n) := by
  unfold impl_NumCut.f cutN mx mn
  congr 1
  omega
theorem sOk_eq (n : Int) : spec_NumOk.f n = some (okN n) := by
  unfold spec_NumOk.f okN
  by_cases h : n ≥ -999
  · rw [if_pos h]; congr 1; rw [decide_eq_decide]; omega
  · rw [if_neg h]; congr 1; symm; rw [decide_eq_false_iff_not]; omega
theorem iOk_eq (n : Int) : impl_NumOk.f n = some (okN n) := by
  unfold impl_NumOk.f okN
  by_cases h : n ≥ -999
  · rw [if_pos h]; congr 1; rw [decide_eq_decide]; omega
  · rw [if_neg h]; congr 1; symm; rw [decide_eq_false_iff_not]; omega
end Go.Proofs.Ytjplcmffdhngmaa.P
