/- Clocks form a join semilattice, the program's join being the reference's, for every drawn clocks; no condition. -/
import Derived.Test.YtjplcmffdhngmaaFLawsFnClockJoin
import Derived.Test.YtjplcmffdhngmaaClkSJoin
import Derived.Test.YtjplcmffdhngmaaClkIJoin
import Derived.Test.YtjplcmffdhngmaaClkIUnder
import Derived.Test.YtjplcmffdhngmaaClkDraw3
import Derived.Test.YtjplcmffdhngmaaIntWp
namespace Go.Proofs.Ytjplcmffdhngmaa.Pure
open Go.RowKit Go.Proofs.Ytjplcmffdhngmaa.P Go.Proofs.YtjplcmffdhngmaaW.PrintWords Go.Proofs.YtjplcmffdhngmaaW.PrintLast

open Go.Proofs.Ytjplcmffdhngmaa.P Go.Proofs.YtjplcmffdhngmaaW.PrintMore
theorem FnClockJoin : laws_FnClockJoin.Pure := by
  intro l0 l1 _ _ h0 _ _ h1
  refine Ev.rounds (g := fun k => laws_FnClockJoin.f k l0 l1) ?_
  have long : Ev (fun k => laws_FnClockJoin.j0 k l0 l1 true) true := by
    refine Evs.succ (fun k => by simp only [laws_FnClockJoin.j0]; rfl) ?_
    exact Evs.ite_pos trivial (Evs.some_ _)
  have rest : Ev (fun k => laws_FnClockJoin.j0 k l0 l1 false) true := by
    obtain ⟨a, b, ha, hb, hd⟩ := drawJoin_ev h0
    obtain ⟨c, d, hc, _, he⟩ := drawJoin_ev h1
    have hj : (joinC a b).length ≤ 3 := by rw [joinC_length]; omega
    have hjc : (joinC b c).length ≤ 3 := by rw [joinC_length]; omega
    have e1 : joinC b a = joinC a b := joinC_ext (by omega) (fun i => by omega)
    have u1 : underC a (joinC a b) = true := underC_of_all fun i => by rw [elC_joinC]; omega
    have u2 : underC b (joinC a b) = true := underC_of_all fun i => by rw [elC_joinC]; omega
    have u3 : underC (joinC a b) (joinC a b) = true := underC_of_all fun i => Int.le_refl _
    have w1 := wpInts_ev (joinC a b) (joinC a b) (by omega)
    have d1 : decide (joinC a b = joinC a b) = true := decide_eq_true rfl
    refine Evs.succ (fun k => by simp only [laws_FnClockJoin.j0]; rfl) ?_
    refine Evs.ite_neg (by simp) (Evs.bind hd (Evs.bind he (Evs.bind (iJoin_ev a b (by omega) (by omega)) (Evs.bind (sJoin_ev a b (by omega) (by omega)) (Evs.bind w1 (Evs.ite_pos d1 (Evs.bind (iJoin_ev b a (by omega) (by omega)) ?_)))))))
    rw [e1]
    refine Evs.bind w1 (Evs.ite_pos d1 (Evs.bind (iUnder_ev a (joinC a b) (by omega)) (Evs.ite_pos u1 (Evs.bind (iUnder_ev b (joinC a b) (by omega)) (Evs.ite_pos u2 (Evs.bind (iUnder_ev (joinC a b) (joinC a b) (by omega)) ?_))))))
    rw [u3]
    have assoc : joinC (joinC a b) c = joinC a (joinC b c) := joinC_ext (by rw [joinC_length, joinC_length]; omega) (fun i => by rw [elC_joinC, elC_joinC]; omega)
    have last : Ev (fun k => (impl_ClockJoin.f k (joinC a b) c).bind fun x => (impl_ClockJoin.f k b c).bind fun y => (impl_ClockJoin.f k a y).bind fun z => (laws_wpInts.f k x z).bind fun r => some r) true := by
      refine Evs.bind (iJoin_ev (joinC a b) c (by omega) (by omega)) (Evs.bind (iJoin_ev b c (by omega) (by omega)) (Evs.bind (iJoin_ev a (joinC b c) (by omega) (by omega)) ?_))
      rw [assoc]
      have := wpInts_ev (joinC a (joinC b c)) (joinC a (joinC b c)) (by rw [joinC_length]; omega)
      rw [decide_eq_true rfl] at this
      exact Evs.bind this (Evs.some_ _)
    refine Evs.succ (fun k => by simp only [laws_FnClockJoin.j1]; rfl) ?_
    refine Evs.ite_neg (by simp) (Evs.bind (iUnder_ev (joinC a b) c (by omega)) (Evs.bind (iUnder_ev a c (by omega)) ?_))
    by_cases hac : underC a c = true
    · refine Evs.ite_pos hac (Evs.bind (iUnder_ev b c (by omega)) (Evs.ite_pos ?_ last))
      rw [beq_iff_eq, Bool.eq_iff_iff, underC_iff_all, underC_iff_all]
      have := underC_all hac
      exact ⟨fun h i => by have := h i; rw [elC_joinC] at this; omega, fun h i => by have h1 := h i; have h2 := this i; rw [elC_joinC]; omega⟩
    · refine Evs.ite_neg hac (Evs.ite_pos ?_ last)
      rw [beq_iff_eq, Bool.eq_false_iff]
      intro h
      exact hac (underC_of_all fun i => by have := underC_all h i; rw [elC_joinC] at this; omega)
  unfold laws_FnClockJoin.f
  by_cases c0 : (l0.length : Int) > 1048576
  · exact Evs.ite_pos c0 long
  · refine Evs.ite_neg c0 ?_
    by_cases c1 : (l1.length : Int) > 1048576
    · rw [decide_eq_true c1]; exact long
    · rw [decide_eq_false c1]; exact rest

end Go.Proofs.Ytjplcmffdhngmaa.Pure
