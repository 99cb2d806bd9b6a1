/- The program's join of clocks is the reference's, in new memory, and the arguments are left as they were, for every two lists of ints; no condition. -/
import Derived.Test.YtjplcmffdhngmaaFLawsFnExactClockJoin
import Derived.Test.YtjplcmffdhngmaaIntTo
import Derived.Test.YtjplcmffdhngmaaIntEq
import Derived.Test.YtjplcmffdhngmaaIntMark
import Derived.Test.YtjplcmffdhngmaaClkSJoin
import Derived.Test.YtjplcmffdhngmaaClkIJoin
namespace Go.Proofs.Ytjplcmffdhngmaa.Pure
open Go.RowKit Go.Proofs.Ytjplcmffdhngmaa.P Go.Proofs.YtjplcmffdhngmaaW.PrintWords Go.Proofs.YtjplcmffdhngmaaW.PrintLast

open Go.Proofs.Ytjplcmffdhngmaa.P Go.Proofs.YtjplcmffdhngmaaW.PrintMore
theorem FnExactClockJoin : laws_FnExactClockJoin.Pure := by
  intro a b _ _ _ _ _ _
  refine Ev.rounds (g := fun k => laws_FnExactClockJoin.f k a b) ?_
  unfold laws_FnExactClockJoin.f
  by_cases c0 : (a.length : Int) > 1048576
  · exact Evs.ite_pos c0 (Evs.some_ _)
  refine Evs.ite_neg c0 ?_
  by_cases c1 : (b.length : Int) > 1048576
  · exact Evs.ite_pos c1 (Evs.some_ _)
  have hj : (joinC a b).length ≤ 1048576 := by rw [joinC_length]; omega
  have ta := toIntS_ev a (by omega)
  have tb := toIntS_ev b (by omega)
  have sj := sJoin_ev a b (by omega) (by omega)
  have ij := iJoin_ev a b (by omega) (by omega)
  have ea : decide (a = a) = true := decide_eq_true rfl
  have eb : decide (b = b) = true := decide_eq_true rfl
  have ej : decide (joinC a b = joinC a b) = true := decide_eq_true rfl
  have ma := markIntS_ev a 1 (by omega) (by omega)
  have mb := markIntS_ev b (1 + a.length) (by omega) (by omega)
  have mj := markIntS_ev (joinC a b) 1 (by omega) (by omega)
  have hh := heldIntS_ev 1 (joinC a b).length (by omega) (by omega)
  refine Evs.ite_neg c1 (Evs.bind ta (Evs.bind tb (Evs.bind sj (Evs.bind ta (Evs.bind tb (Evs.bind ij (Evs.bind (eqIntS_ev _ _ (by omega)) (Evs.ite_pos ej (Evs.bind ta (Evs.bind (eqIntS_ev a a (by omega)) (Evs.ite_pos ea (Evs.bind tb (Evs.bind (eqIntS_ev b b (by omega)) (Evs.ite_pos eb (Evs.bind ma (Evs.bind mb (Evs.ite_neg (by simp only; omega) (Evs.bind (eqIntS_ev _ _ (by omega)) ?_))))))))))))))))))
  rw [ej]
  refine Evs.succ (fun k => by simp only [laws_FnExactClockJoin.j0]; rfl) ?_
  exact Evs.ite_neg (by simp) (Evs.bind mj (Evs.bind hh (Evs.ite_neg (by omega) (Evs.ite_pos rfl (Evs.bind ta (Evs.bind tb (Evs.bind ij (Evs.bind (eqIntS_ev _ _ (by omega)) (Evs.ite_pos ej (Evs.bind hh (Evs.ite_neg (by omega) (Evs.ite_pos rfl (Evs.some_ _)))))))))))))

end Go.Proofs.Ytjplcmffdhngmaa.Pure
