/- The program's order of clocks is the reference's, and the arguments are left as they were, for every two lists of ints; no condition. -/
import Derived.Test.YtjplcmffdhngmaaFLawsFnExactClockUnder
import Derived.Test.YtjplcmffdhngmaaIntTo
import Derived.Test.YtjplcmffdhngmaaIntEq
import Derived.Test.YtjplcmffdhngmaaClkSUnder
import Derived.Test.YtjplcmffdhngmaaClkIUnder
namespace Go.Proofs.Ytjplcmffdhngmaa.Pure
open Go.RowKit Go.Proofs.Ytjplcmffdhngmaa.P Go.Proofs.YtjplcmffdhngmaaW.PrintWords Go.Proofs.YtjplcmffdhngmaaW.PrintLast

open Go.Proofs.Ytjplcmffdhngmaa.P Go.Proofs.YtjplcmffdhngmaaW.PrintMore
theorem FnExactClockUnder : laws_FnExactClockUnder.Pure := by
  intro a b _ _ _ _ _ _
  refine Ev.rounds (g := fun k => laws_FnExactClockUnder.f k a b) ?_
  unfold laws_FnExactClockUnder.f
  by_cases c0 : (a.length : Int) > 1048576
  · exact Evs.ite_pos c0 (Evs.some_ _)
  refine Evs.ite_neg c0 ?_
  by_cases c1 : (b.length : Int) > 1048576
  · exact Evs.ite_pos c1 (Evs.some_ _)
  have ta := toIntS_ev a (by omega)
  have tb := toIntS_ev b (by omega)
  have ea : decide (a = a) = true := decide_eq_true rfl
  have eb : decide (b = b) = true := decide_eq_true rfl
  refine Evs.ite_neg c1 (Evs.bind ta (Evs.bind tb (Evs.bind (sUnder_ev a b (by omega)) (Evs.bind ta (Evs.bind tb (Evs.bind (iUnder_ev a b (by omega)) (Evs.ite_neg (by simp) (Evs.bind ta (Evs.bind (eqIntS_ev a a (by omega)) (Evs.ite_pos ea (Evs.bind tb (Evs.bind (eqIntS_ev b b (by omega)) (Evs.ite_pos eb (Evs.some_ _))))))))))))))

end Go.Proofs.Ytjplcmffdhngmaa.Pure
