/- The reference's order of two clocks is the order; no condition but lengths of ints. -/
import Derived.Test.YtnjaimaaijbacaaClkSJoin
import Derived.Test.YtnjaimaaijbacaaFSpecClockUnder
namespace Go.Proofs.Ytnjaimaaijbacaa.P
open Go.RowKit Go.Proofs.YtnjaimaaijbacaaW.PrintWords Go.Proofs.YtnjaimaaijbacaaW.PrintMore

theorem sUnder_loop (a b : List Int) (ha : a.length ≤ 1000000000000) (d : Nat) : ∀ i : Nat, i + d = a.length → Ev (fun k => spec_ClockUnder.l0 k a b (i : Int)) ((List.range' i d).all fun i => decide (a.getD i 0 ≤ elC b i)) := by
  induction d with
  | zero =>
    intro i hi
    refine Evs.succ (fun k => by simp only [spec_ClockUnder.l0]; rfl) ?_
    exact Evs.ite_neg (by omega) (Evs.some_ _)
  | succ d ih =>
    intro i hi
    have hw : wrap64 ((i : Int) + 1) = ((i + 1 : Nat) : Int) := by rw [wrap_id (by omega) (by omega)]; rfl
    have next := ih (i + 1) (by omega)
    have key : ∀ m : Int, m = elC b i → Ev (fun k => if rd a (i : Int) > m then some false else spec_ClockUnder.l0 k a b (wrap64 ((i : Int) + 1))) ((List.range' i (d + 1)).all fun i => decide (a.getD i 0 ≤ elC b i)) := by
      rintro m rfl
      rw [rd_getD, List.range'_succ, List.all_cons]
      by_cases h : a.getD i 0 > elC b i
      · rw [show decide (a.getD i 0 ≤ elC b i) = false from by simpa using h, Bool.false_and]
        exact Evs.ite_pos h (Evs.some_ _)
      · rw [show decide (a.getD i 0 ≤ elC b i) = true from by simpa using h, Bool.true_and, hw]
        exact Evs.ite_neg h next
    refine Evs.succ (fun k => by simp only [spec_ClockUnder.l0]; rfl) ?_
    refine Evs.ite_pos (by omega) ?_
    by_cases hib : (i : Int) < (b.length : Int)
    · exact Evs.ite_pos hib (Evs.ite_pos (by omega) (Evs.bind0 (l1Max_eq _ _) (key _ (by rw [rd_getD]; rfl))))
    · exact Evs.ite_neg hib (Evs.ite_pos (by omega) (Evs.bind0 (l1Max_eq _ _) (key _ (by unfold elC; rw [getD_over (by omega)]))))
theorem sUnder_ev (a b : List Int) (ha : a.length ≤ 1000000000000) : Ev (fun k => spec_ClockUnder.f k a b) (underC a b) := by
  have := sUnder_loop a b ha a.length 0 (Nat.zero_add _)
  unfold underC
  rw [List.range_eq_range']
  exact this
end Go.Proofs.Ytnjaimaaijbacaa.P
