/- The program's order of two clocks is the order; no condition but lengths of ints. -/
import Derived.Test.YtnjaimaaijbacaaClkBase
import Derived.Test.YtnjaimaaijbacaaFImplAt
import Derived.Test.YtnjaimaaijbacaaFImplClockUnder
namespace Go.Proofs.Ytnjaimaaijbacaa.P
open Go.RowKit Go.Proofs.YtnjaimaaijbacaaW.PrintWords Go.Proofs.YtnjaimaaijbacaaW.PrintMore

theorem at_eq (c : List Int) (i : Nat) : impl_at.f c (i : Int) = some (elC c i) := by
  unfold impl_at.f
  by_cases h : (i : Int) ≥ (c.length : Int)
  · rw [if_pos h]
    unfold elC
    rw [getD_over (by omega)]
    rfl
  · rw [if_neg h, if_pos (by omega), if_pos (by omega), rd_getD, mx_max]
    rfl
theorem iUnder_loop (a b : List Int) (ha : a.length ≤ 1000000000000) (d : Nat) : ∀ i : Nat, i + d = a.length → Ev (fun k => impl_ClockUnder.l0 k b a (a.length : Int) (i : Int)) ((List.range' i d).all fun i => decide (a.getD i 0 ≤ elC b i)) := by
  induction d with
  | zero =>
    intro i hi
    refine Evs.succ (fun k => by simp only [impl_ClockUnder.l0]; rfl) ?_
    exact Evs.ite_neg (by omega) (Evs.some_ _)
  | succ d ih =>
    intro i hi
    have hw : wrap64 ((i : Int) + 1) = ((i + 1 : Nat) : Int) := by rw [wrap_id (by omega) (by omega)]; rfl
    have next := ih (i + 1) (by omega)
    refine Evs.succ (fun k => by simp only [impl_ClockUnder.l0]; rfl) ?_
    refine Evs.ite_pos (by omega) (Evs.ite_pos (by omega) (Evs.ite_pos (by omega) (Evs.bind0 (at_eq _ _) ?_)))
    rw [rd_getD, List.range'_succ, List.all_cons]
    by_cases h : a.getD i 0 > elC b i
    · rw [show decide (a.getD i 0 ≤ elC b i) = false from by simpa using h, Bool.false_and]
      exact Evs.ite_pos h (Evs.some_ _)
    · rw [show decide (a.getD i 0 ≤ elC b i) = true from by simpa using h, Bool.true_and, hw]
      exact Evs.ite_neg h next
theorem iUnder_ev (a b : List Int) (ha : a.length ≤ 1000000000000) : Ev (fun k => impl_ClockUnder.f k a b) (underC a b) := by
  have := iUnder_loop a b ha a.length 0 (Nat.zero_add _)
  unfold underC
  rw [List.range_eq_range']
  exact this
end Go.Proofs.Ytnjaimaaijbacaa.P
