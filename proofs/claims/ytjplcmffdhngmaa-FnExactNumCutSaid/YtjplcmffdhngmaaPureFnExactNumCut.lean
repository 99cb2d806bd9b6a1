/- The program's NumCut returns what the reference's returns, for every integer; no condition. -/
import Derived.Test.YtjplcmffdhngmaaPFnExactNumCutx1
namespace Go.Proofs.Ytjplcmffdhngmaa.Pure
open Go.RowKit Go.Proofs.Ytjplcmffdhngmaa.PFnExactNumCut Go.Proofs.YtjplcmffdhngmaaW.PrintWords Go.Proofs.YtjplcmffdhngmaaW.PrintLast

theorem FnExactNumCut : laws_FnExactNumCut.Pure := by
  intro a _
  have key : impl_NumCut.f a = spec_NumCut.f a := by
    unfold spec_NumCut.f impl_NumCut.f mx mn
    by_cases h1 : a > 999
    · rw [if_pos h1]; simp [show (999 : Int) < a from h1]
    · rw [if_neg h1]
      by_cases h2 : a < -999
      · rw [if_pos h2]; simp [show ¬ (999 : Int) < a by omega]; omega
      · rw [if_neg h2]; simp [show ¬ (999 : Int) < a by omega]; omega
  unfold laws_FnExactNumCut.f
  rw [key]
  unfold spec_NumCut.f
  split
  · simp
  · split <;> simp

end Go.Proofs.Ytjplcmffdhngmaa.Pure
