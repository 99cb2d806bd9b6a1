/- Clock order is transitive, the program's being the reference's, for every drawn clocks; no condition. -/
import Derived.Test.YtjplcmffdhngmaaFLawsFnClockUnder
import Derived.Test.YtjplcmffdhngmaaClkSUnder
import Derived.Test.YtjplcmffdhngmaaClkIUnder
import Derived.Test.YtjplcmffdhngmaaClkDraw
import Derived.Test.YtjplcmffdhngmaaClkDraw2
namespace Go.Proofs.Ytjplcmffdhngmaa.Pure
open Go.RowKit Go.Proofs.Ytjplcmffdhngmaa.P Go.Proofs.YtjplcmffdhngmaaW.PrintWords Go.Proofs.YtjplcmffdhngmaaW.PrintLast

open Go.Proofs.Ytjplcmffdhngmaa.P Go.Proofs.YtjplcmffdhngmaaW.PrintMore
theorem FnClockUnder : laws_FnClockUnder.Pure := by
  intro l0 l1 _ _ h0 _ _ h1
  refine Ev.rounds (g := fun k => laws_FnClockUnder.f k l0 l1) ?_
  have long : Ev (fun k => laws_FnClockUnder.j0 k l0 l1 true) true := by
    refine Evs.succ (fun k => by simp only [laws_FnClockUnder.j0]; rfl) ?_
    exact Evs.ite_pos trivial (Evs.some_ _)
  have rest : Ev (fun k => laws_FnClockUnder.j0 k l0 l1 false) true := by
    obtain ⟨a, b, ha, hb, hd⟩ := drawUnder_ev h0
    obtain ⟨c, d, hc, _, he⟩ := drawUnder_ev h1
    refine Evs.succ (fun k => by simp only [laws_FnClockUnder.j0]; rfl) ?_
    refine Evs.ite_neg (by simp) (Evs.bind hd (Evs.bind he (Evs.bind (iUnder_ev a b (by omega)) (Evs.bind (sUnder_ev a b (by omega)) (Evs.ite_neg (by simp) ?_)))))
    by_cases hab : underC a b = true
    · refine Evs.ite_pos hab (Evs.bind (iUnder_ev b c (by omega)) ?_)
      by_cases hbc : underC b c = true
      · refine Evs.ite_pos hbc (Evs.bind (iUnder_ev a c (by omega)) ?_)
        rw [underC_trans hab hbc]
        exact Evs.some_ _
      · exact Evs.ite_neg hbc (Evs.some_ _)
    · exact Evs.ite_neg hab (Evs.some_ _)
  unfold laws_FnClockUnder.f
  by_cases c0 : (l0.length : Int) > 1048576
  · exact Evs.ite_pos c0 long
  · refine Evs.ite_neg c0 ?_
    by_cases c1 : (l1.length : Int) > 1048576
    · rw [decide_eq_true c1]; exact long
    · rw [decide_eq_false c1]; exact rest

end Go.Proofs.Ytjplcmffdhngmaa.Pure
