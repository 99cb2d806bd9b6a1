/- The program's join of two clocks is the join; no condition but lengths of ints. -/
import Derived.Test.YtnjaimaaijbacaaClkIUnder
import Derived.Test.YtnjaimaaijbacaaFImplClockJoin
namespace Go.Proofs.Ytnjaimaaijbacaa.P
open Go.RowKit Go.Proofs.YtnjaimaaijbacaaW.PrintWords Go.Proofs.YtnjaimaaijbacaaW.PrintMore

theorem iJoin_loop (a b : List Int) (ha : a.length ≤ 1000000000000) (hb : b.length ≤ 1000000000000) (d : Nat) : ∀ i : Nat, i + d = max a.length b.length → Ev (fun k => impl_ClockJoin.l0 k a b ((List.range i).map fun j => max (elC a j) (elC b j)) (mx (a.length : Int) (b.length : Int)) (i : Int)) (joinC a b) := by
  induction d with
  | zero =>
    intro i hi
    refine Evs.succ (fun k => by simp only [impl_ClockJoin.l0]; rfl) ?_
    refine Evs.ite_neg (by rw [max_two_nat]; omega) ?_
    rw [show joinC a b = (List.range i).map fun j => max (elC a j) (elC b j) from by unfold joinC; rw [← hi]; rfl]
    exact Evs.some_ _
  | succ d ih =>
    intro i hi
    have hw : wrap64 ((i : Int) + 1) = ((i + 1 : Nat) : Int) := by rw [wrap_id (by omega) (by omega)]; rfl
    have next := ih (i + 1) (by omega)
    rw [range_snoc_map] at next
    refine Evs.succ (fun k => by simp only [impl_ClockJoin.l0]; rfl) ?_
    refine Evs.ite_pos (by rw [max_two_nat]; omega) (Evs.bind0 (at_eq _ _) (Evs.bind0 (at_eq _ _) (Evs.ite_pos (by simp; omega) ?_)))
    rw [mx_max (elC a i) (elC b i), hw]
    exact next
theorem iJoin_ev (a b : List Int) (ha : a.length ≤ 1000000000000) (hb : b.length ≤ 1000000000000) : Ev (fun k => impl_ClockJoin.f k a b) (joinC a b) := iJoin_loop a b ha hb _ 0 (Nat.zero_add _)
end Go.Proofs.Ytnjaimaaijbacaa.P
